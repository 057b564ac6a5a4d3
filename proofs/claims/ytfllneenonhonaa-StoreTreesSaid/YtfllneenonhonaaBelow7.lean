/- Layer 7's statements: the entries of the leaves below a handle. -/
import Derived.Test.YtfllneenonhonaaList2
import Derived.Test.YtfllneenonhonaaTreeM
namespace Go.Proofs.Ytfllneenonhonaa.Law7
open Go Go.RowKit Go.Sort Go.Proofs.Ytfllneenonhonaa Go.Proofs.Ytfllneenonhonaa.ShaW Go.Proofs.Ytfllneenonhonaa.Path Go.Proofs.Ytfllneenonhonaa.Store Go.Proofs.Ytfllneenonhonaa.Law9
set_option maxHeartbeats 3200000
set_option linter.unusedVariables false

theorem wpList_build_two' {P : Program} {w : World} {ops : Array Oper} {rest : List Oper} {o : Oper} {a : Act} {Q : Exit → Act → World → Prop} (hgd : o.guard = none) (t k j : Nat) (x y : Operand) (ho : o.op = .build t #[(k, x), (j, y)]) (vx vy : Value) (hx : a.eval x = vx) (hy : a.eval y = vy)
    (cells : Array Value) (hf : P.built t [(k, vx), (j, vy)] = some cells) (h : wpList P ops Q rest (a.put o.dst (.agg cells)) w) : wpList P ops Q (o :: rest) a w :=
  wpList_build_is hgd t #[(k, x), (j, y)] ho cells (by simpa [hx, hy] using hf) h
def entsP (ps : List (Int × Tr)) : Ents := ps.flatMap fun p => p.2.ents
set_option maxRecDepth 100000 in
theorem below_ok {w : World} {s : Nat} {F : Nat → Prop} {σ : SlabSt Nd} (h : At w s F σ) (G : Store.Good σ) {h0 : Int} {d0 : Nat} (hd0 : d0 ≤ 256) {t : Tr} (hr : Rep (sk σ) h0 d0 t) (hlen : t.ents.length < 100) :
    Calls Try.prog 26 #[.pointer (some ⟨s, 0, none⟩), .int .i64 h0] w fun e w' => ∃ v out, e = .returned v ∧ Store.Told w.heap.size w' v out ∧ out.map Pr.ent = t.ents ∧ Adds w w' := by
  obtain ⟨base, hbase⟩ : ∃ base, base = w.heap.size := ⟨_, rfl⟩
  obtain ⟨i1, hi, hz0, hz1, hz2⟩ := SlabN.int_info
  obtain ⟨i0, z0, p1, p2, p3, p4, p5⟩ := pair_info
  have HI := Lib.hid (And.intro p1 (And.intro p2 (And.intro p3 (And.intro p4 p5))))
  have HJ := Lib.hid (And.intro hi (And.intro hz0 (And.intro hz1 hz2)))
  have HAT := Lib.hid h
  have HG := Lib.hid G
  have HR := Lib.hid (And.intro hr (And.intro hlen hd0))
  have HB := Lib.hid hbase
  clear h G hr hlen hi hz0 hz1 hz2 p1 p2 p3 p4 p5 hd0
  rw [← hbase]
  clear hbase
  go_enter Try.func26, Try.ntmps26
  go_wp2
  go_loopg [5, 6] (steps [(h0, t)]) (fun g s5 s6 wr => ∃ (ps : List (Int × Tr)) (out : List Pr), Deep (sk σ) ps ∧ g = steps ps ∧ RowKit.Hid (out.map Pr.ent ++ entsP ps = t.ents) ∧ SomeSt base w wr s5 s6 out (ps.map (·.1)))
  case atStart =>
    refine ⟨[(h0, t)], [], ⟨⟨d0, Nat.zero_le _, HR.out.2.2, HR.out.1⟩, trivial⟩, rfl, Lib.hid (by simp [entsP]), ?_⟩
    refine ⟨⟨RowP.nil _ _, fun x hx => (by cases hx), List.Pairwise.nil⟩, ?_, fun k hk => ⟨fun e => (by cases e), fun x hx => (by cases hx)⟩, (Ch.refl _ _).alloc _⟩
    have hnew := heap_alloc_new w (.cells #[.int .i64 h0] 3)
    exact (owns_mk' hnew (by decide) (by decide) rfl rfl).base (fun k hk => by simp [Value.ownBlock] at hk; have := HB.out; omega)
  case round =>
    obtain ⟨ps, out, hdp, rfl, hfr, hst⟩ := hrel
    obtain ⟨o9, c9, rfl⟩ := hst.told.row.form
    have hps := hdp.small
    have hol : out.length < 100 := by
      have h1 := congrArg List.length hfr.out
      rw [List.length_append, List.length_map] at h1
      have := HR.out.2.1
      omega
    have hol' : (out.length : Int) < 100 := by omega
    cases ps with
    | nil =>
      obtain ⟨a10, c10, rfl⟩ := owns_form hst.pile
      have F0 : RowKit.Hid (Store.Told base wr (.slice o9 out.length c9) out ∧ out.map Pr.ent = t.ents ∧ Adds w wr) := Lib.hid ⟨hst.told, by have := hfr.out; simpa [entsP] using this, hst.world⟩
      clear hdp hst hps
      simp only [List.map_nil, List.length_nil]
      go_wp2
      go_ret
      first
        | exact ⟨_, out, rfl, F0.out⟩
        | exact ⟨_, rfl, out, F0.out⟩
    | cons p rest =>
      obtain ⟨h', t'⟩ := p
      obtain ⟨g, cap, cur, e10, hg1, hg2, hg3, hg4, hg5⟩ := owns_block hst.pile (by simp)
      subst e10
      have hcell : wr.cell? ⟨g, rest.length, none⟩ = some (.int .i64 h') := row_cell hg1 (take_get hg5 (by simp [il]))
      have hst' : SomeSt base w wr (.slice o9 out.length c9) (.slice (some ⟨g, 0, none⟩) rest.length cap) out (rest.map (·.1)) := by
        refine ⟨hst.told, ?_, hst.one, hst.world⟩
        rw [List.length_map]
        refine (owns_mk' (n := rest.length) hg1 (by simp at hg2 ⊢; omega) hg3 hg4 ?_).base (fun k hk => ?_)
        · have := congrArg (List.take (rest.length * 1)) hg5
          rw [List.take_take, Nat.min_eq_left (by simp)] at this
          rw [this]
          simp [il]
        · cases hk; exact (hst.pile.lt g rfl).1
      obtain ⟨⟨d', hd1, hd2, hd0⟩, hdr⟩ := hdp
      have hd' : Rep (sk σ) h' d' t' := hd0
      clear hd0
      have hAt := HAT.out.adds hst.world
      have hkd := Kind_ok hAt h'
      have hky := fun w1 (a : Adds wr w1) => Key_ok (hAt.adds a) h'
      have hva := fun w1 (a : Adds wr w1) => Value_ok (hAt.adds a) h'
      have hsd := fun w1 (a : Adds wr w1) => Sides_ok (hAt.adds a) h'
      have hfr2 : out.map Pr.ent ++ (t'.ents ++ entsP rest) = t.ents := hfr.out
      have hwk : IntKind.i64.wrap (rest.length : Int) = rest.length := IntWalk.i64_in _ (by simp at hps; omega)
      have hln : (List.map (fun x : Int × Tr => x.1) ((h', t') :: rest)).length = rest.length + 1 := by simp
      rw [hln] at hg2 ⊢
      have hrl : rest.length ≤ 257 := by simp at hps; omega
      obtain ⟨m, hm⟩ : ∃ m, m = rest.length := ⟨_, rfl⟩
      rw [← hm] at hcell hwk hrl hg2 hst' ⊢
      have hl0 : (0 : Int) < ((m + 1 : Nat) : Int) := by omega
      have hrl' : (m : Int) ≤ 257 := by omega
      have HM := Lib.hid hm
      have HS := Lib.hid hst'
      have HD := Lib.hid (And.intro hdr (And.intro hd1 (And.intro hd2 hd')))
      have HFR := Lib.hid hfr2
      clear hst hg1 hg3 hg4 hg5 hst' hd1 hd2 hdr hAt hfr2 hln hm hps hfr
      by_cases hx0 : h' = 0
      · subst hx0
        have ht0 := hd'.zero_nil HG.out.fit.zero
        rw [show (nd σ 0).kind = 0 from rfl] at hkd
        have HKD := Lib.hid hkd
        have HT0 := Lib.hid ht0
        clear hkd hky hva hsd hd' ht0
        go_wp2_with fail
        refine HKD.out.mono ?_; rintro e w1 ⟨rfl, a1⟩
        have S1 := Lib.hid (HS.out.adds a1)
        clear a1 hcell
        go_wp2_with fail
        go_roundg (steps rest)
        case measure => rw [steps_cons]; omega
        case rel => exact ⟨rest, out, HD.out.1, rfl, Lib.hid (by have := HFR.out; rw [HT0.out] at this; exact this), S1.out⟩
      · obtain ⟨x, hx⟩ := hd'.live.resolve_left hx0
        have hkl : x.key.length = 32 := (HG.out.fit.all _ _ hx).key
        obtain ⟨q1, q2, q3, q4, q5, q6, q7⟩ := has_sk hx
        rw [q2] at hkd
        rw [q6] at hky
        rw [q7] at hva
        by_cases hk2 : x.kind = 2
        · rw [hk2] at hkd
          have HKD := Lib.hid hkd
          obtain ⟨l, r, hdx, hl, hr, ht'⟩ : ∃ l r, x.depth = (d' : Nat) ∧ Rep (sk σ) x.left (d' + 1) l ∧ Rep (sk σ) x.right (d' + 1) r ∧ t' = .node l r := by
            cases hd' with
            | nil => rw [HG.out.fit.zero] at hx; cases hx
            | leaf hn' h1 => rw [hx] at hn'; cases hn'; omega
            | node hn' _ h2 hl hr => rw [hx] at hn'; cases hn'; exact ⟨_, _, h2, hl, hr, rfl⟩
          subst ht'
          have hd1 := (HG.out.fit.inner hx hk2).d1
          have hd255 : d' ≤ 255 := by omega
          obtain ⟨nl, hnl⟩ : ∃ nl, nl = x.left := ⟨_, rfl⟩
          obtain ⟨nr, hnr⟩ : ∃ nr, nr = x.right := ⟨_, rfl⟩
          rw [q4, q5, ← hnl, ← hnr] at hsd
          rw [← hnl] at hl
          rw [← hnr] at hr
          have HSD := Lib.hid hsd
          have HLR := Lib.hid (And.intro hl hr)
          clear hkd hsd hl hr hnl hnr hx q1 q2 q3 q4 q5 q6 q7 hva hky hd' hd1 hdx hk2 hkl hx0
          go_wp2_with fail
          refine HKD.out.mono ?_; rintro e w1 ⟨rfl, a1⟩
          have A6 := Lib.hid a1
          clear a1 hcell
          go_wp2_with fail
          refine (HSD.out _ A6.out).mono ?_; rintro e w7 ⟨rfl, a7⟩
          have S7 := Lib.hid (HS.out.adds (A6.out.trans a7 (fun _ h => h.elim)))
          have hw7 := S7.out.world.size
          have hpl := S7.out.pile
          have hpl2 : w7.ownsRow base 3 1 (.slice (some ⟨g, 0, none⟩) m cap) m (il (rest.map (·.1)).reverse) := by
            rw [List.length_map, ← HM.out] at hpl
            exact hpl
          have HPL := Lib.hid hpl2
          have HW7 := Lib.hid hw7
          clear a7 hw7 hpl hpl2
          go_wp2_with (first
            | (at_builtin; refine wpList_append_own_at _ rfl _ _ 63 rfl base 3 i1 (.int .i64 0) 1 8 Try.underlying63 HJ.out.1 HJ.out.2.1 HJ.out.2.2.1 HJ.out.2.2.2 rfl (by decide) _ _ _ rfl (HPL.out.alloc _) ⟨w7.heap.size, 0, none⟩ 2 2 [.int .i64 nr, .int .i64 nl] rfl rfl (row_news (heap_alloc_new w7 (.cells #[.int .i64 nr, .int .i64 nl] 3))) (by simp [Value.oneCell']) (by unfold maxLen; omega) (by omega) (by have := HW7.out; have := HB.out; simp; omega) ?_; intro v' w8 hown8 hgrow8 hnil8 hloc8))
          have hS8 : SomeSt base w w8 (.slice o9 out.length c9) v' out (((nl, l) :: (nr, r) :: rest).map (·.1)) := by
            refine S7.out.push (by have := HB.out; omega) ?_ hgrow8 hloc8
            have e : (((nl, l) :: (nr, r) :: rest).map (fun x : Int × Tr => x.1)).length = m + 2 := by rw [List.length_map, HM.out]; rfl
            rw [e]
            simpa [il] using hown8
          have S8 := Lib.hid hS8
          clear hown8 hgrow8 hnil8 hloc8 hS8
          go_roundg (steps ((nl, l) :: (nr, r) :: rest))
          case measure => simp only [steps_cons, Tr.nodes]; omega
          case rel =>
            have hh := HD.out.2.1
            have hh2 := HD.out.2.2.1
            refine ⟨(nl, l) :: (nr, r) :: rest, out, ⟨⟨d' + 1, by rw [List.length_cons]; omega, by omega, HLR.out.1⟩, ⟨⟨d' + 1, by omega, by omega, HLR.out.2⟩, HD.out.1⟩⟩, rfl, Lib.hid ?_, S8.out⟩
            have := HFR.out
            simpa [entsP, Tr.ents] using this
        · have hk1 := (HG.out.fit.leaf hx hk2).1
          rw [hk1] at hkd
          have HKD := Lib.hid hkd
          have hul : t' = .leaf x.key x.value := by
            cases hd' with
            | nil => rw [HG.out.fit.zero] at hx; cases hx
            | leaf hn' h1 => rw [hx] at hn'; cases hn'; rfl
            | node hn' h1 _ _ _ => rw [hx] at hn'; cases hn'; omega
          obtain ⟨T, hT⟩ : ∃ T, T = brow x.key := ⟨_, rfl⟩
          have hTs : T.size = 32 := by rw [hT, brow_size, hkl]
          have hT1 : ∀ v ∈ T.toList, v.oneCell' = true := by rw [hT]; exact brow_one _
          rw [← hT] at hky
          have HT := Lib.hid (And.intro hT (And.intro hTs (And.intro hT1 hkl)))
          have HKY := Lib.hid hky
          have hfk : t'.ents = [(x.key, x.value)] := by rw [hul]; rfl
          obtain ⟨bs, hbs⟩ : ∃ bs, bs = x.value := ⟨_, rfl⟩
          rw [← hbs] at hva hfk
          have HFK := Lib.hid hfk
          have HVA := Lib.hid hva
          clear hkd hul hfk hbs hva hsd hx q1 q2 q3 q4 q5 q6 q7 hk1 hk2 hd' hT hTs hT1 hky hkl hx0
          go_wp2_with fail
          refine HKD.out.mono ?_; rintro e w1 ⟨rfl, a1⟩
          have A1 := Lib.hid a1
          clear a1 hcell
          go_wp2_with fail
          refine (HKY.out _ A1.out).mono ?_; rintro e w2 ⟨rfl, a2⟩
          have A2 := Lib.hid (A1.out.trans a2 (fun _ h => h.elim))
          clear a2 A1
          go_wp2_with fail
          refine (HVA.out _ A2.out).mono ?_; rintro e w7 ⟨v7, rfl, hb7, hv7, a7⟩
          obtain ⟨vo, vcap, rfl, _⟩ := hb7.form
          have H7 := Lib.hid (And.intro hb7 (And.intro hv7 (A2.out.trans a7 (fun _ h => h.elim))))
          clear hb7 hv7 a7
          obtain ⟨bn, hbn⟩ : ∃ bn, bn = bs.length := ⟨_, rfl⟩
          rw [← hbn] at H7 ⊢
          have HBN := Lib.hid hbn
          clear hbn
          obtain ⟨C, hC⟩ : ∃ C, C = T ++ #[Value.slice vo bn vcap] := ⟨_, rfl⟩
          have hpb := pair_built T vo bn vcap HT.out.2.1
          rw [← hC] at hpb
          have hCx : C = (Pr.mk x.key (.slice vo bn vcap) bs).cells := by
            rw [hC, HT.out.1]
            apply Array.ext'
            simp [Pr.cells, brow]
          have hCs : C.size = 33 := by rw [hC, Array.size_append, HT.out.2.1]; rfl
          have hC1 : ∀ v ∈ C.toList, v.oneCell' = true := fun v hv => by
            rw [hC, Array.toList_append, List.mem_append] at hv
            rcases hv with hv | hv
            · exact HT.out.2.2.1 v hv
            · obtain rfl := List.mem_singleton.1 hv
              rfl
          have HC := Lib.hid (And.intro hCx (And.intro hCs (And.intro hC1 hpb)))
          clear hC hpb hCx hCs hC1
          go_wp2_with (first
            | fail
            | ((with_reducible show wpList _ _ _ (⟨_, .build 37 _, _, _, _, _⟩ :: _) _ _); refine wpList_build_two' rfl 37 0 1 _ _ rfl (.agg T) (.slice vo bn vcap) rfl rfl C HC.out.2.2.2 ?_)
            | ((with_reducible show wpList _ _ _ (⟨_, .buildSlice 41 _ _, _, _, _, _⟩ :: _) _ _); refine wpList_buildSlice_one rfl 41 _ rfl 37 i0 z0 (.agg C) rfl Try.underlying41 HI.out.1 HI.out.2.1 (by rw [HI.out.2.2.1]; decide) (by rw [HI.out.2.2.1]; decide) (by rw [HI.out.2.2.1]; exact HC.out.2.1) ?_)
            | (at_builtin; refine wpList_append_mine rfl _ _ 41 rfl 37 i0 z0 33 56 Try.underlying41 HI.out.1 HI.out.2.1 HI.out.2.2.1 HI.out.2.2.2.1 HI.out.2.2.2.2 (by decide) (.slice o9 out.length c9) out.length (flatP out) rfl (((HS.out.told.row.adds H7.out.2.2).alloc _).base (fun _ _ => Nat.zero_le _)) ⟨w7.heap.size, 0, none⟩ 1 1 C.toList rfl (by rw [Array.length_toList, HC.out.2.1]) (row_news (heap_alloc_new w7 (.cells C 37))) HC.out.2.2.1 (by unfold maxLen; omega) (by omega) ?_; intro v' w8 own' grow' loc'))
          have hS8 : SomeSt base w w8 v' (.slice (some ⟨g, 0, none⟩) m cap) (out ++ [Pr.mk x.key (.slice vo bn vcap) bs]) (rest.map (·.1)) := by
            refine HS.out.tell (by have := HB.out; omega) (by have := HB.out; have := HS.out.world.size; omega) H7.out.2.2 HT.out.2.2.2 (by exact H7.out.1) (fun k hk => ?_) (by rw [← HC.out.1]; exact own') grow' loc'
            obtain ⟨p, q⟩ := H7.out.2.1 k hk
            have := A2.out.size
            exact ⟨by omega, q⟩
          have S8 := Lib.hid hS8
          clear own' grow' loc' hS8
          obtain ⟨o8, c8, hv8⟩ := S8.out.told.row.form
          rw [List.length_append, List.length_singleton] at hv8
          subst hv8
          go_wp2_with fail
          go_roundg (steps rest)
          case measure => rw [steps_cons]; omega
          case rel =>
            refine ⟨rest, out ++ [Pr.mk x.key (.slice vo bn vcap) bs], HD.out.1, rfl, Lib.hid ?_, S8.out⟩
            have := HFR.out
            rw [HFK.out] at this
            rw [List.map_append, List.append_assoc]
            exact this
end Go.Proofs.Ytfllneenonhonaa.Law7

/- PutTurns: in whatever order: the walk. -/
import Derived.Test.YtpeebeebakjpdaaPairs9
import Derived.Deep.Upon
namespace Go.Proofs.Ytpeebeebakjpdaa.Law9
open Go Go.RowKit Go.Proofs.Ytpeebeebakjpdaa Go.Proofs.Ytpeebeebakjpdaa.ShaW Go.Proofs.Ytpeebeebakjpdaa.Path Go.Proofs.Ytpeebeebakjpdaa.Store
set_option maxHeartbeats 3200000
set_option linter.unusedVariables false

/-- Numbers that came in. -/
def IntsAt (w : World) (ao : Option Addr) (len : Nat) : Prop := ∀ i, i < len → ∃ (g off : Nat) (x : Int), ao = some ⟨g, off, none⟩ ∧ w.cell? ⟨g, off + i, none⟩ = some (.int .i64 x) ∧ (Lit.int .i64 x).wf = true ∧ g < w.heap.size
theorem IntsAt.keep {w w' : World} {ao : Option Addr} {len : Nat} (h : IntsAt w ao len) (a : Adds w w') : IntsAt w' ao len := fun i hi => by
  obtain ⟨g, off, x, h1, h2, h3, h4⟩ := h i hi
  exact ⟨g, off, x, h1, a.cell h2 id, h3, Nat.lt_of_lt_of_le h4 a.size⟩
/-- A row of pairs is copied. -/
theorem wpList_append_row {w : World} {ops : Array Oper} {rest : List Oper} {o : Oper} {a : Act} {Q : Exit → Act → World → Prop} (hgd : o.guard = none) (s x : Operand)
    (ho : o.op = .call { callee := .builtin .append, args := #[s, x], argTypes := #[22, 22] }) (g : Nat) (hs : a.eval s = .slice (some ⟨g, 0, none⟩) 0 0) (hg : w.heap[g]? = some (.cells #[] 32 (0, 0)))
    (xv : Value) (hx : a.eval x = xv) {b : Nat} {l : List Pr} (hr : RowP w b xv l) (hone : ∀ u ∈ flatP l, u.oneCell' = true) (hl : l.length ≤ 1000)
    (h : ∀ v' w', RowP w' 0 v' l → w.grownBy w' (some g) → (v'.ownBlock = some g ∨ ∀ k, v'.ownBlock = some k → w.heap.size ≤ k) → wpList Try.prog ops Q rest (a.put o.dst v') w') : wpList Try.prog ops Q (o :: rest) a w := by
  obtain ⟨i0, z0, p1, p2, p3, p4, p5⟩ := pair_info
  have hbase : w.ownsRow 0 32 33 (.slice (some ⟨g, 0, none⟩) 0 0) 0 [] := ⟨by simp, .inr ⟨g, 0, #[], rfl, Nat.zero_le _, hg, Nat.le_refl _, Nat.zero_le _, rfl, by simp⟩⟩
  obtain ⟨h0, ⟨rfl, h1⟩ | ⟨g', cap, cur, rfl, hb, hg', hn, hc, hsz, ht⟩⟩ := hr
  · have hnil : l = [] := List.eq_nil_of_length_eq_zero h1
    subst hnil
    refine wpList_plain hgd fun _ hK => ?_
    have hrun := run_append_nothing (P := Try.prog) w 22 22 o.type 32 i0 Try.underlying22 p1 (some ⟨g, 0, none⟩) 0 0 (Nat.le_refl _) _ (Src.ofNil w Try.underlying22 0)
    unfold Oper.wp
    simp [execOp, ho, resolve, invoke, builtin, hs, hx, hrun, Result.andThen]
    exact hK _ _ (h _ w hbase ⟨rfl, rfl, rfl, Nat.le_refl _, fun _ _ _ => rfl⟩ (.inl rfl))
  · refine wpList_append_mine hgd s x 22 ho 32 i0 z0 33 56 Try.underlying22 p1 p2 p3 p4 p5 (by decide) _ 0 [] hs hbase ⟨g', 0, none⟩ l.length cap (flatP l) hx h0 (fun j u hu => ?_) hone (by unfold maxLen; omega) (by omega) ?_
    · have hj := (List.getElem?_eq_some_iff.1 hu).1
      rw [h0] at hj
      have hrow : w.ownsRow 0 32 33 (.slice (some ⟨g', 0, none⟩) l.length cap) l.length (flatP l) := ⟨h0, .inr ⟨g', cap, cur, rfl, Nat.zero_le _, hg', hn, hc, hsz, ht⟩⟩
      rw [add_plain, Nat.zero_add, hrow.cellAt j hj]
      exact hu
    · intro v' w' q1 q2 q3
      rw [Nat.zero_add, List.nil_append] at q1
      exact h v' w' q1 q2 q3
theorem swap_perm {l : List Pr} {a b : Nat} {x y : Pr} (ha : l[a]? = some x) (hb : l[b]? = some y) : ((l.set a y).set b x).Perm l := by
  obtain ⟨h1, rfl⟩ := List.getElem?_eq_some_iff.1 ha
  obtain ⟨h2, rfl⟩ := List.getElem?_eq_some_iff.1 hb
  exact List.set_set_perm h1 h2
theorem keysOf_ents (l : List Pr) : keysOf (l.map Pr.ent) = l.map (·.key) := by simp [keysOf, Pr.ent, Function.comp_def]
/-- The next one of unlike keys. -/
theorem perm_next {L : Ents} {l : List Pr} {k : Nat} {x : Pr} (hp : L.Perm ((l.take k).map Pr.ent)) (hn : (l.map (·.key)).Nodup) (hx : l[k]? = some x) : (upd L x.key x.val).Perm ((l.take (k + 1)).map Pr.ent) := by
  have htk : l.take (k + 1) = l.take k ++ [x] := by rw [List.take_add_one, hx]; rfl
  have hne : x.key ∉ keysOf L := fun hm => by
    have h1 : x.key ∈ keysOf ((l.take k).map Pr.ent) := (hp.map _).mem_iff.1 hm
    rw [keysOf_ents] at h1
    have h2 : ((l.take (k + 1)).map (·.key)).Nodup := hn.sublist ((List.take_sublist _ _).map _)
    rw [htk, List.map_append, List.nodup_append] at h2
    exact h2.2.2 _ h1 x.key (by simp) rfl
  rw [htk, List.map_append]
  exact (upd_new hne).trans (hp.append_right _)
set_option maxRecDepth 100000 in
theorem turns_law (ao : Option Addr) (l : List Pr) (cap : Nat) (bo : Option Addr) (nb cb : Nat) (w : World) (hl : PairsAt w ao l) (hi : IntsAt w bo nb) (hb : largeB l = false) :
    Calls Try.prog 3 #[.slice ao l.length cap, .slice bo nb cb] w fun e w' => e = .returned (.bool true) ∧ Adds w w' := by
  obtain ⟨hlen, hval⟩ := largeB_no hb
  have hlg := fun w1 (a : Adds w w1) => large_ok cap (hl.keep a (fun _ h => h.elim))
  have hpk := fun w1 (a : Adds w w1) => pairs_ok cap (hl.keep a (fun _ h => h.elim)) hlen
  rw [hb] at hlg
  have HLG := Lib.hid hlg
  have HPK := Lib.hid hpk
  have HI := Lib.hid hi
  have HV := Lib.hid hval
  have HG := Lib.hid hl.1
  obtain ⟨len, hle⟩ : ∃ len, len = l.length := ⟨_, rfl⟩
  rw [← hle] at HLG HPK hlen ⊢
  have HLE := Lib.hid hle
  clear hl hi hb hval hlg hpk hle
  go_enter Try.func3, Try.ntmps3
  go_wp2_with fail
  refine (awake_ok _).mono ?_; rintro e w1 ⟨rfl, a1⟩
  have A1 := Lib.hid a1
  clear a1
  go_wp2_with fail
  refine (HLG.out _ A1.out).mono ?_; rintro e w2 ⟨rfl, rfl⟩
  go_wp2_with fail
  refine (HPK.out _ A1.out).mono ?_; rintro e w3 ⟨v3, inn, rfl, hpr, hrow, a3⟩
  obtain ⟨io, ic, rfl⟩ := hrow.form
  have H3 := Lib.hid (And.intro hpr (And.intro hrow (A1.out.trans a3 (fun _ h => h.elim))))
  clear hpr hrow a3
  have hin16 : inn.length ≤ 16 := by have := H3.out.1.len; have := HLE.out; omega
  have hinm := H3.out.1.mem
  have hgo : ∀ x ∈ inn, x.Good w := fun x hx => HG.out x (hinm x hx)
  have hko : KeyOk inn := fun x hx => (hgo x hx).key
  have hone : ∀ u ∈ flatP inn, u.oneCell' = true := fun u hu => by
    obtain ⟨x, hx, hu⟩ := List.mem_flatMap.1 hu
    exact Pr.one (hgo x hx) u hu
  have HIN := Lib.hid (And.intro hgo (And.intro hko (And.intro hone (fun x hx => HV.out x (hinm x hx)))))
  clear hinm hgo hko hone HPK HLG
  go_wp2_with (first
    | fail
    | (at_builtin; refine wpList_append_row rfl _ _ rfl w3.heap.size rfl (heap_alloc_new _ _) _ rfl ((H3.out.2.1).adds ((Ch.refl _ w3).alloc _)) HIN.out.2.2.1 (by omega) ?_; intro v7 w4 row7 grow7 loc7))
  obtain ⟨tt, tc, hv7⟩ := row7.form
  subst hv7
  have a34 : Adds w3 w4 := ((Ch.refl (fun _ => False) w3).alloc _).grown grow7 (fun k hk => .inr (by cases hk; exact Nat.le_refl _))
  have row4 : RowP w4 w3.heap.size (.slice tt inn.length tc) inn := row7.base (fun k hk => by
    rcases loc7 with e | e
    · rw [e] at hk; cases hk; exact Nat.le_refl _
    · have := e k hk; simp at this; omega)
  have H4 := Lib.hid (And.intro a34 row4)
  clear row7 grow7 loc7 a34 row4
  go_wp2_with fail
  go_loopg [8, 9, 10] 40 (fun g s8 s9 s10 wr => ∃ (k : Nat) (tl : List Pr), s8 = .int .i64 k ∧ k + g = 40 ∧ tl.Perm inn ∧ RowP wr w3.heap.size (.slice tt inn.length tc) tl ∧ Adds w3 wr)
  case atStart => exact ⟨0, inn, rfl, rfl, List.Perm.refl _, H4.out.2, H4.out.1⟩
  case round =>
    obtain ⟨k, tl, rfl, hk, hperm, hrow, hA⟩ := hrel
    have HR := Lib.hid (And.intro hperm (And.intro hrow hA))
    have HKG := Lib.hid hk
    have hk40 : k ≤ 40 := by omega
    clear hk hperm hrow hA
    go_upto_region 7 with fail
    go_cut [42] (fun s42 wx => ∃ c : Bool, s42 = .bool c ∧ wx = wr ∧ (c = true → k < nb ∧ k < 40 ∧ 0 < inn.length))
    case first =>
      by_cases h1 : k < nb
      · have e1 : decide ((k : Int) < (nb : Int)) = true := decide_eq_true (by omega)
        have e1' : decide (k < nb) = true := decide_eq_true h1
        by_cases h2 : k < 40
        · have e2 : decide ((k : Int) < 40) = true := decide_eq_true (by omega)
          have e2' : decide (k < 40) = true := decide_eq_true h2
          by_cases h3 : 0 < inn.length
          · have e3 : decide ((0 : Int) < (inn.length : Int)) = true := decide_eq_true (by omega)
            have e3' : decide (0 < inn.length) = true := decide_eq_true h3
            have HH := Lib.hid (And.intro h1 (And.intro h2 h3))
            clear h1 h2 h3
            go_wp2
            go_meet
            case rel => exact ⟨true, rfl, rfl, fun _ => HH.out⟩
          · have e3 : decide ((0 : Int) < (inn.length : Int)) = false := decide_eq_false (by omega)
            have e3' : decide (0 < inn.length) = false := decide_eq_false h3
            clear h1 h2 h3
            go_wp2
            go_meet
            case rel => exact ⟨false, rfl, rfl, fun h => by cases h⟩
        · have e2 : decide ((k : Int) < 40) = false := decide_eq_false (by omega)
          have e2' : decide (k < 40) = false := decide_eq_false h2
          clear h1 h2
          go_wp2
          go_meet
          case rel => exact ⟨false, rfl, rfl, fun h => by cases h⟩
      · have e1 : decide ((k : Int) < (nb : Int)) = false := decide_eq_false (by omega)
        have e1' : decide (k < nb) = false := decide_eq_false h1
        clear h1
        go_wp2
        go_meet
        case rel => exact ⟨false, rfl, rfl, fun h => by cases h⟩
    case rest =>
      obtain ⟨c, rfl, rfl, hc⟩ := hcut
      cases c with
      | false =>
        have htl : tl.length = inn.length := HR.out.1.length_eq
        have hown : Adds w wc := H3.out.2.2.trans HR.out.2.2 (fun _ h => h.elim)
        have HRW := Lib.hid (And.intro (HR.out.2.1) (And.intro (H3.out.2.1.adds HR.out.2.2) (And.intro hown (And.intro HR.out.1 htl))))
        clear htl hown hc
        go_wp2_with fail
        refine (New_own 10320 _ (by decide) (by decide)).mono ?_; rintro e w5 ⟨s, rfl, h5⟩
        have hs5 : St9 wc w5 s ⟨10320, [], []⟩ 0 [] 10320 0 := ⟨h5.ow.less (fun _ h => h.elim), Db.new 10320 (by decide) (by decide), rfl, Nat.le_refl _⟩
        have HS5 := Lib.hid hs5
        clear h5 hs5
        go_wp2_with fail
        go_loopg [12, 13, 15] inn.length (fun g s12 s13 s15 wr => ∃ (k : Nat) (one : Int) (σ : SlabSt Nd) (L : Ents), s13 = .int .i64 one ∧ s15 = .int .i64 k ∧ k + g = inn.length ∧ St9 wc wr s σ one L 10320 (600 * k) ∧ L.Perm ((inn.take k).map Pr.ent) ∧ Store.live σ ≤ 258 * k ∧ (0 < k → one ≠ 0))
        case atStart => exact ⟨0, 0, _, _, rfl, rfl, by omega, HS5.out, by rw [List.take_zero]; exact List.Perm.refl _, Nat.zero_le _, fun h => absurd h (Nat.lt_irrefl 0)⟩
        case round =>
          obtain ⟨k, one, σ, L, rfl, rfl, hk, hst, hp, hlv, h0⟩ := hrel
          have HS := Lib.hid (And.intro hst (And.intro hp (And.intro hlv h0)))
          have HKG := Lib.hid hk
          clear HS5 hst hp hlv h0
          by_cases hkl : k = inn.length
          · have e1 : decide ((k : Int) < (inn.length : Int)) = false := decide_eq_false (by omega)
            have e1' : decide (k < inn.length) = false := decide_eq_false (by omega)
            have hp := HS.out.2.1
            rw [List.take_of_length_le (by omega)] at hp
            have HL1 := Lib.hid hp
            have hone : one = 0 ∨ 1 ≤ Store.held σ one := HS.out.1.db.held
            have hne0 : 0 < inn.length → ¬ one = 0 := fun h => HS.out.2.2.2 (by omega)
            have hst2 : St9 wc wr s σ 0 [] 10320 (600 * (inn.length + 0)) := ⟨HS.out.1.own, ⟨HS.out.1.db.good, .nil, List.nodup_nil, fun _ h => (by cases h), .inl rfl⟩, HS.out.1.room, by have := HS.out.1.total; omega⟩
            have HO2 := Lib.hid (And.intro hst2 (And.intro HS.out.1.db (And.intro hone (And.intro hne0 (show Store.live σ ≤ 258 * (inn.length + 0) by have := HS.out.2.2.1; omega)))))
            clear hp hone hne0 hst2 hkl hk HS
            go_wp2_with fail
            go_loopg [12, 14, 16] inn.length (fun g s12 s14 s16 wx => ∃ (k : Nat) (two : Int) (σ : SlabSt Nd) (L2 : Ents), s14 = .int .i64 two ∧ s16 = .int .i64 k ∧ k + g = inn.length ∧ St9 wc wx s σ two L2 10320 (600 * (inn.length + k)) ∧ L2.Perm ((tl.take k).map Pr.ent) ∧ Store.live σ ≤ 258 * (inn.length + k) ∧
              (Db σ one L ∧ (0 < inn.length → ¬ one = 0)) ∧ (one = 0 ∨ (1 ≤ Store.held σ one ∧ one ≠ two)))
            case atStart =>
              refine ⟨0, 0, _, _, rfl, rfl, by omega, HO2.out.1, by rw [List.take_zero]; exact List.Perm.refl _, HO2.out.2.2.2.2, ⟨HO2.out.2.1, HO2.out.2.2.2.1⟩, ?_⟩
              by_cases h0 : one = 0
              · exact .inl h0
              · exact .inr ⟨HO2.out.2.2.1.resolve_left h0, h0⟩
            case round =>
              obtain ⟨k, two, σ, L2, rfl, rfl, hk, hst, hp, hlv, hd1, ho⟩ := hrel
              have HS2 := Lib.hid (And.intro hst (And.intro hp (And.intro hlv (And.intro hd1 ho))))
              have HKG := Lib.hid hk
              clear HO2 hst hp hlv hd1 ho
              by_cases hkl : k = inn.length
              · have e1 : decide ((k : Int) < (inn.length : Int)) = false := decide_eq_false (by omega)
                have e1' : decide (k < inn.length) = false := decide_eq_false (by omega)
                obtain ⟨F2, hF2⟩ := HS2.out.1.own.at
                have hoc := Occupied_ok hF2
                have hsame : digestOf σ one = digestOf σ two := by
                  have h2 := HS2.out.2.1
                  rw [List.take_of_length_le (by have := HRW.out.2.2.2.2; omega)] at h2
                  rw [HS2.out.2.2.2.1.1.digest, HS2.out.1.db.digest, tree_perm 256 (HL1.out.trans ((HRW.out.2.2.2.1.map Pr.ent).symm.trans h2.symm))]
                have hd : Db σ one L ∧ σ.room = 10320 ∧ Store.live σ ≤ 258 * (inn.length + inn.length) ∧ Store.total σ + 600 < 1073741824 ∧ L.Perm (inn.map Pr.ent) ∧ digestOf σ one = digestOf σ two :=
                  ⟨HS2.out.2.2.2.1.1, HS2.out.1.room, by have := HS2.out.2.2.1; omega, by have := HS2.out.1.total; omega, HL1.out, hsame⟩
                have HD := Lib.hid hd
                have HOC := Lib.hid hoc
                have HO3 := Lib.hid HS2.out.1.own
                clear hoc hsame hd hF2 hkl hk HS2
                go_wp2_with fail
                refine HOC.out.mono ?_; rintro e w7 ⟨rfl, rfl⟩
                go_wp2_with fail
                go_loopg [18, 19, 20] inn.length (fun g s18 s19 s20 wx => ∃ k : Nat, s18 = .int .i64 k ∧ k + g = inn.length ∧ Ow wc wx s σ (fun _ => False))
                case atStart => exact ⟨0, rfl, by omega, HO3.out⟩
                case round =>
                  obtain ⟨k, rfl, hk, ho⟩ := hrel
                  have HS3 := Lib.hid (And.intro ho True.intro)
                  have HKG := Lib.hid hk
                  clear HO3 HOC ho
                  by_cases hkl : k = inn.length
                  · have e1 : decide ((k : Int) < (inn.length : Int)) = false := decide_eq_false (by omega)
                    have e1' : decide (k < inn.length) = false := decide_eq_false (by omega)
                    obtain ⟨F3, hF3⟩ := HS3.out.1.at
                    have hd1 := fun w6 (a : Adds wr w6) => Digest_ok (hF3.adds a) one
                    have hd2 := fun w6 (a : Adds wr w6) => Digest_ok (hF3.adds a) two
                    have hoc := fun w6 (a : Adds wr w6) => Occupied_ok (hF3.adds a)
                    have hdl := hF3.digest_length one
                    have hdd := HD.out.2.2.2.2.2
                    rw [hdd] at hd1
                    have heq := eql_keys 40 Try.underlying40 (digestOf σ two) (digestOf σ two) (by rw [← hdd]; exact hdl) (by rw [← hdd]; exact hdl)
                    simp only [decide_true] at heq
                    obtain ⟨D, hD⟩ : ∃ x, x = brow (digestOf σ two) := ⟨_, rfl⟩
                    rw [← hD] at hd1 hd2 heq
                    obtain ⟨us, hus⟩ : ∃ x, x = σ.used := ⟨_, rfl⟩
                    rw [← hus] at hoc ⊢
                    have HD1 := Lib.hid (And.intro hd1 (And.intro hd2 hoc))
                    clear hd1 hd2 hoc hdl hdd hD hus hF3 hk hkl
                    go_wp2_with fail
                    refine (HD1.out.1 _ (Ch.refl _ _)).mono ?_; rintro e w8 ⟨rfl, a8⟩
                    have A8 := Lib.hid a8
                    clear a8
                    go_wp2_with fail
                    refine (HD1.out.2.1 _ A8.out).mono ?_; rintro e w9 ⟨rfl, a9⟩
                    have A9 := Lib.hid (A8.out.trans a9 (fun _ h => h.elim))
                    clear a9
                    go_wp2_with fail
                    refine (HD1.out.2.2 _ A9.out).mono ?_; rintro e w10 ⟨rfl, rfl⟩
                    go_wp2
                    go_ret
                    exact ⟨rfl, (HRW.out.2.2.1.trans HS3.out.1.world (fun _ h => h.elim)).trans A9.out (fun _ h => h.elim)⟩

                  · have e1 : decide ((k : Int) < (inn.length : Int)) = true := decide_eq_true (by omega)
                    have e1' : decide (k < inn.length) = true := decide_eq_true (by omega)
                    have hkn : k < inn.length := by omega
                    have hki : (k : Int) < (inn.length : Int) := by omega
                    obtain ⟨x, hx⟩ : ∃ x, inn[k]? = some x := ⟨_, List.getElem?_eq_getElem (by have := HRW.out.2.2.2.2; omega)⟩
                    have hxm : x ∈ inn := List.mem_of_getElem? hx
                    have hg := HIN.out.1 x hxm
                    have hv16 := HIN.out.2.2.2 x hxm
                    obtain ⟨gt, ct, cur, hv, hbg, hg0, hs0, hx0, _⟩ := (HRW.out.2.1).open (fun y hy => HIN.out.2.1 y (hy)) (by have := HRW.out.2.2.2.2; omega)
                    injection hv with hv1 hv2 hv3
                    subst hv1
                    have hm : k * 33 + 33 ≤ inn.length * 33 := by have := Nat.mul_le_mul_right 33 (show k + 1 ≤ inn.length by have := HRW.out.2.2.2.2; omega); omega
                    obtain ⟨pk, pv⟩ := pair_parts hg.key (hx0 k x hx)
                    obtain ⟨K, hK⟩ : ∃ K, K = brow x.key := ⟨_, rfl⟩
                    rw [← hK] at pk
                    obtain ⟨xo, xc, hxv, _, _⟩ := hg.val.form
                    have HC := Lib.hid (And.intro hg0 (And.intro (show k * 33 + 32 ≤ cur.size by omega) (And.intro pk pv)))
                    have HX := Lib.hid (And.intro hx (And.intro hg (And.intro hv16 hK)))
                    clear hx hxm hg hv16 hv2 hv3 hbg hg0 hs0 hx0 hm pk pv hK hkl hk
                    go_wp2
                    refine wp_region_plan (fun w0 => w0.heap[gt]? = some (.cells cur 32 (0, 0))) 18 [(0, false), (1, false), (2, false), (3, false), (4, false), (5, false), (6, false), (7, false), (8, false), (9, false), (10, false), (11, false), (12, true), (13, false), (14, false), (15, false), (16, false), (17, false)] (by kernel_rfl) (by kernel_rfl) ?_ ?_
                    · exact (HS3.out.1.world).drew.row HC.out.1 id
                    iterate 6
                      refine plan_look rfl rfl (fun w0 hS => (by clear hS; go_simp; try rfl)) ?_
                      simp only [Act.put, List.setIfInBounds_toArray, List.set_cons_succ, List.set_cons_zero]
                    refine plan_load_part (cur := cur) (t := 32) (fr := (0, 0)) rfl rfl 29 _ rfl gt (k * 33) 32 (by simp [go_sem]) (fun w0 hS => hS) Try.underlying29 rfl sizeP HC.out.2.1 K HC.out.2.2.1 ?_
                    simp only [Act.put, List.setIfInBounds_toArray, List.set_cons_succ, List.set_cons_zero]
                    iterate 4
                      refine plan_look rfl rfl (fun w0 hS => (by clear hS; go_simp; try rfl)) ?_
                      simp only [Act.put, List.setIfInBounds_toArray, List.set_cons_succ, List.set_cons_zero]
                    refine plan_look (v := .slice xo x.val.length xc) rfl rfl (fun w0 hS => (by have e0 := row_cell hS HC.out.2.2.2; rw [hxv] at e0; clear hS; go_simp; try rfl)) ?_
                    simp only [Act.put, List.setIfInBounds_toArray, List.set_cons_succ, List.set_cons_zero]
                    refine plan_do rfl ?_
                    go_wp2_with fail
                    have hg7 := HX.out.2.1.keep ((HRW.out.2.2.1.trans (HS3.out.1.world) (fun _ h => h.elim)).drew) (fun _ h => h.elim)
                    have hb7 := hg7.val
                    have hv7 := hg7.blk
                    rw [hxv] at hb7 hv7
                    have hP := Put_db (HS3.out.1.adds (Ch.refl _ _).drew) HD.out.1 hg7.key hb7 hv7 HX.out.2.2.1 (by have := HD.out.2.2.1; rw [HD.out.2.1]; omega) HD.out.2.2.2.1
                    rw [← HX.out.2.2.2] at hP
                    refine hP.mono ?_; rintro e w8 ⟨r, σ', rfl, o8, b8, W8, D8, hsame⟩
                    obtain ⟨rfl, rfl⟩ := hsame (HD.out.2.2.2.2.1.mem_iff.2 (List.mem_map.2 ⟨x, List.mem_of_getElem? HX.out.1, rfl⟩))
                    have HR8 := Lib.hid o8
                    clear hP hg7 hb7 hv7 o8 b8 W8 D8 hsame
                    dsimp only
                    go_step
                    refine wpList_nil ?_
                    change _ ∧ _
                    refine ⟨HR8.out.world.row HC.out.1 id, ?_⟩
                    iterate 5
                      refine plan_look rfl rfl (fun w0 hS => (by clear hS; go_simp; try rfl)) ?_
                      simp only [Act.put, List.setIfInBounds_toArray, List.set_cons_succ, List.set_cons_zero]
                    refine plan_end ?_; simp only [List.drop_succ_cons, List.drop_zero]
                    go_wp2
                    refine NoPanic.normal ?_
                    go_wp2_with fail
                    go_roundg (gk - 1)
                    case measure => have := HKG.out; omega
                    case rel => exact ⟨k + 1, by simp, by have := HKG.out; omega, HR8.out⟩


              · have e1 : decide ((k : Int) < (inn.length : Int)) = true := decide_eq_true (by omega)
                have e1' : decide (k < inn.length) = true := decide_eq_true (by omega)
                have hkn : k < inn.length := by omega
                have hki : (k : Int) < (inn.length : Int) := by omega
                obtain ⟨x, hx⟩ : ∃ x, tl[k]? = some x := ⟨_, List.getElem?_eq_getElem (by have := HRW.out.2.2.2.2; omega)⟩
                have hxm : x ∈ inn := HRW.out.2.2.2.1.mem_iff.1 (List.mem_of_getElem? hx)
                have hg := HIN.out.1 x hxm
                have hv16 := HIN.out.2.2.2 x hxm
                obtain ⟨gt, ct, cur, hv, hbg, hg0, hs0, hx0, _⟩ := (HRW.out.1).open (fun y hy => HIN.out.2.1 y (HRW.out.2.2.2.1.mem_iff.1 hy)) (by have := HRW.out.2.2.2.2; omega)
                injection hv with hv1 hv2 hv3
                subst hv1
                have hm : k * 33 + 33 ≤ tl.length * 33 := by have := Nat.mul_le_mul_right 33 (show k + 1 ≤ tl.length by have := HRW.out.2.2.2.2; omega); omega
                obtain ⟨pk, pv⟩ := pair_parts hg.key (hx0 k x hx)
                obtain ⟨K, hK⟩ : ∃ K, K = brow x.key := ⟨_, rfl⟩
                rw [← hK] at pk
                obtain ⟨xo, xc, hxv, _, _⟩ := hg.val.form
                have HC := Lib.hid (And.intro hg0 (And.intro (show k * 33 + 32 ≤ cur.size by omega) (And.intro pk pv)))
                have HX := Lib.hid (And.intro hx (And.intro hg (And.intro hv16 hK)))
                clear hx hxm hg hv16 hv2 hv3 hbg hg0 hs0 hx0 hm pk pv hK hkl hk
                go_wp2
                refine wp_region_plan (fun w0 => w0.heap[gt]? = some (.cells cur 32 (0, 0))) 18 [(0, false), (1, false), (2, false), (3, false), (4, false), (5, false), (6, false), (7, false), (8, false), (9, false), (10, false), (11, false), (12, true), (13, false), (14, false), (15, false), (16, false), (17, false)] (by kernel_rfl) (by kernel_rfl) ?_ ?_
                · exact (HS2.out.1.own.world).drew.row HC.out.1 id
                iterate 6
                  refine plan_look rfl rfl (fun w0 hS => (by clear hS; go_simp; try rfl)) ?_
                  simp only [Act.put, List.setIfInBounds_toArray, List.set_cons_succ, List.set_cons_zero]
                refine plan_load_part (cur := cur) (t := 32) (fr := (0, 0)) rfl rfl 29 _ rfl gt (k * 33) 32 (by simp [go_sem]) (fun w0 hS => hS) Try.underlying29 rfl sizeP HC.out.2.1 K HC.out.2.2.1 ?_
                simp only [Act.put, List.setIfInBounds_toArray, List.set_cons_succ, List.set_cons_zero]
                iterate 4
                  refine plan_look rfl rfl (fun w0 hS => (by clear hS; go_simp; try rfl)) ?_
                  simp only [Act.put, List.setIfInBounds_toArray, List.set_cons_succ, List.set_cons_zero]
                refine plan_look (v := .slice xo x.val.length xc) rfl rfl (fun w0 hS => (by have e0 := row_cell hS HC.out.2.2.2; rw [hxv] at e0; clear hS; go_simp; try rfl)) ?_
                simp only [Act.put, List.setIfInBounds_toArray, List.set_cons_succ, List.set_cons_zero]
                refine plan_do rfl ?_
                go_wp2_with fail
                have hg7 := HX.out.2.1.keep ((HRW.out.2.2.1.trans (HS2.out.1.own.world) (fun _ h => h.elim)).drew) (fun _ h => h.elim)
                have hb7 := hg7.val
                have hv7 := hg7.blk
                rw [hxv] at hb7 hv7
                have hP := Put_db (HS2.out.1.own.adds (Ch.refl _ _).drew) HS2.out.1.db hg7.key hb7 hv7 HX.out.2.2.1 (by have := HS2.out.2.2.1; rw [HS2.out.1.room]; omega) (by have := HS2.out.1.total; omega)
                rw [← HX.out.2.2.2] at hP
                refine hP.mono ?_; rintro e w8 ⟨r, σ', rfl, o8, b8, W8, D8, _⟩
                have hst8 : St9 wc w8 s σ' r (upd L2 x.key x.val) 10320 (600 * (inn.length + (k + 1))) := ⟨o8, D8, W8.room.trans HS2.out.1.room, by have := W8.total; have := HS2.out.1.total; omega⟩
                have hp8 : (upd L2 x.key x.val).Perm ((tl.take (k + 1)).map Pr.ent) := perm_next HS2.out.2.1 ((HRW.out.2.2.2.1.map _).nodup_iff.2 H3.out.1.nodup) HX.out.1
                have hone := (HS2.out.2.2.2.2).resolve_left (HS2.out.2.2.2.1.2 (by omega))
                obtain ⟨d1, d2, d3⟩ := HS2.out.2.2.2.1.1.other W8 D8 hone.1 hone.2
                have HR8 := Lib.hid (And.intro hst8 (And.intro hp8 (And.intro (show Store.live σ' ≤ 258 * (inn.length + (k + 1)) by have := W8.live; have := HS2.out.2.2.1; omega) (And.intro (And.intro d1 HS2.out.2.2.2.1.2) (And.intro d2 d3)))))
                clear hP hg7 hb7 hv7 o8 b8 W8 D8 hst8 hp8 hone d1 d2 d3
                dsimp only
                go_step
                refine wpList_nil ?_
                change _ ∧ _
                refine ⟨HR8.out.1.own.world.row HC.out.1 id, ?_⟩
                iterate 5
                  refine plan_look rfl rfl (fun w0 hS => (by clear hS; go_simp; try rfl)) ?_
                  simp only [Act.put, List.setIfInBounds_toArray, List.set_cons_succ, List.set_cons_zero]
                refine plan_end ?_; simp only [List.drop_succ_cons, List.drop_zero]
                go_wp2
                refine NoPanic.normal ?_
                go_wp2_with fail
                go_roundg (gk - 1)
                case measure => have := HKG.out; omega
                case rel => exact ⟨k + 1, r, σ', _, rfl, by simp, by have := HKG.out; omega, HR8.out.1, HR8.out.2.1, HR8.out.2.2.1, HR8.out.2.2.2.1, .inr HR8.out.2.2.2.2⟩

          · have e1 : decide ((k : Int) < (inn.length : Int)) = true := decide_eq_true (by omega)
            have e1' : decide (k < inn.length) = true := decide_eq_true (by omega)
            have hkn : k < inn.length := by omega
            have hki : (k : Int) < (inn.length : Int) := by omega
            obtain ⟨x, hx⟩ : ∃ x, inn[k]? = some x := ⟨_, List.getElem?_eq_getElem (by have := HRW.out.2.2.2.2; omega)⟩
            have hxm : x ∈ inn := List.mem_of_getElem? hx
            have hg := HIN.out.1 x hxm
            have hv16 := HIN.out.2.2.2 x hxm
            obtain ⟨gt, ct, cur, hv, hbg, hg0, hs0, hx0, _⟩ := (HRW.out.2.1).open (fun y hy => HIN.out.2.1 y (hy)) (by have := HRW.out.2.2.2.2; omega)
            injection hv with hv1 hv2 hv3
            subst hv1
            have hm : k * 33 + 33 ≤ inn.length * 33 := by have := Nat.mul_le_mul_right 33 (show k + 1 ≤ inn.length by have := HRW.out.2.2.2.2; omega); omega
            obtain ⟨pk, pv⟩ := pair_parts hg.key (hx0 k x hx)
            obtain ⟨K, hK⟩ : ∃ K, K = brow x.key := ⟨_, rfl⟩
            rw [← hK] at pk
            obtain ⟨xo, xc, hxv, _, _⟩ := hg.val.form
            have HC := Lib.hid (And.intro hg0 (And.intro (show k * 33 + 32 ≤ cur.size by omega) (And.intro pk pv)))
            have HX := Lib.hid (And.intro hx (And.intro hg (And.intro hv16 hK)))
            clear hx hxm hg hv16 hv2 hv3 hbg hg0 hs0 hx0 hm pk pv hK hkl hk
            go_wp2
            refine wp_region_plan (fun w0 => w0.heap[gt]? = some (.cells cur 32 (0, 0))) 18 [(0, false), (1, false), (2, false), (3, false), (4, false), (5, false), (6, false), (7, false), (8, false), (9, false), (10, false), (11, false), (12, true), (13, false), (14, false), (15, false), (16, false), (17, false)] (by kernel_rfl) (by kernel_rfl) ?_ ?_
            · exact (HS.out.1.own.world).drew.row HC.out.1 id
            iterate 6
              refine plan_look rfl rfl (fun w0 hS => (by clear hS; go_simp; try rfl)) ?_
              simp only [Act.put, List.setIfInBounds_toArray, List.set_cons_succ, List.set_cons_zero]
            refine plan_load_part (cur := cur) (t := 32) (fr := (0, 0)) rfl rfl 29 _ rfl gt (k * 33) 32 (by simp [go_sem]) (fun w0 hS => hS) Try.underlying29 rfl sizeP HC.out.2.1 K HC.out.2.2.1 ?_
            simp only [Act.put, List.setIfInBounds_toArray, List.set_cons_succ, List.set_cons_zero]
            iterate 4
              refine plan_look rfl rfl (fun w0 hS => (by clear hS; go_simp; try rfl)) ?_
              simp only [Act.put, List.setIfInBounds_toArray, List.set_cons_succ, List.set_cons_zero]
            refine plan_look (v := .slice xo x.val.length xc) rfl rfl (fun w0 hS => (by have e0 := row_cell hS HC.out.2.2.2; rw [hxv] at e0; clear hS; go_simp; try rfl)) ?_
            simp only [Act.put, List.setIfInBounds_toArray, List.set_cons_succ, List.set_cons_zero]
            refine plan_do rfl ?_
            go_wp2_with fail
            have hg7 := HX.out.2.1.keep ((HRW.out.2.2.1.trans (HS.out.1.own.world) (fun _ h => h.elim)).drew) (fun _ h => h.elim)
            have hb7 := hg7.val
            have hv7 := hg7.blk
            rw [hxv] at hb7 hv7
            have hP := Put_db (HS.out.1.own.adds (Ch.refl _ _).drew) HS.out.1.db hg7.key hb7 hv7 HX.out.2.2.1 (by have := HS.out.2.2.1; rw [HS.out.1.room]; omega) (by have := HS.out.1.total; omega)
            rw [← HX.out.2.2.2] at hP
            refine hP.mono ?_; rintro e w8 ⟨r, σ', rfl, o8, b8, W8, D8, _⟩
            have hst8 : St9 wc w8 s σ' r (upd L x.key x.val) 10320 (600 * (k + 1)) := ⟨o8, D8, W8.room.trans HS.out.1.room, by have := W8.total; have := HS.out.1.total; omega⟩
            have hp8 : (upd L x.key x.val).Perm ((inn.take (k + 1)).map Pr.ent) := perm_next HS.out.2.1 H3.out.1.nodup HX.out.1
            have HR8 := Lib.hid (And.intro hst8 (And.intro hp8 (And.intro (show Store.live σ' ≤ 258 * (k + 1) by have := W8.live; have := HS.out.2.2.1; omega) W8.ne)))
            clear hP hg7 hb7 hv7 o8 b8 W8 D8 hst8 hp8
            dsimp only
            go_step
            refine wpList_nil ?_
            change _ ∧ _
            refine ⟨HR8.out.1.own.world.row HC.out.1 id, ?_⟩
            iterate 5
              refine plan_look rfl rfl (fun w0 hS => (by clear hS; go_simp; try rfl)) ?_
              simp only [Act.put, List.setIfInBounds_toArray, List.set_cons_succ, List.set_cons_zero]
            refine plan_end ?_; simp only [List.drop_succ_cons, List.drop_zero]
            go_wp2
            refine NoPanic.normal ?_
            go_wp2_with fail
            go_roundg (gk - 1)
            case measure => have := HKG.out; omega
            case rel => exact ⟨k + 1, r, σ', _, rfl, by simp, by have := HKG.out; omega, HR8.out.1, HR8.out.2.1, HR8.out.2.2.1, fun _ => HR8.out.2.2.2⟩
      | true =>
        obtain ⟨hkn, hk4, hn0⟩ := hc rfl
        have hAw : Adds w wc := (H3.out.2.2.trans HR.out.2.2 (fun _ h => h.elim))
        obtain ⟨gi, offi, x, rfl, hcell, hxwf, _⟩ := (HI.out.keep hAw) k hkn
        have hlen2 : tl.length = inn.length := HR.out.1.length_eq
        have hnI : (0 : Int) < (inn.length : Int) := by omega
        have hz : ((inn.length : Int) == 0) = false := by simpa using (show ¬ (inn.length : Int) = 0 by omega)
        have t1 := Int.lt_tmod_of_pos (k : Int) hnI
        have t2 := Int.tmod_lt_of_pos (k : Int) hnI
        have t3 : 0 ≤ Int.tmod (k : Int) (inn.length : Int) := Int.tmod_nonneg _ (by omega)
        have hw0 : IntKind.i64.wrap (Int.tmod (k : Int) (inn.length : Int)) = Int.tmod (k : Int) (inn.length : Int) := IntWalk.i64_in _ (by omega)
        obtain ⟨a, ha⟩ : ∃ a : Nat, Int.tmod (k : Int) (inn.length : Int) = a := ⟨(Int.tmod (k : Int) (inn.length : Int)).toNat, by omega⟩
        have hal : a < inn.length := by omega
        obtain ⟨b1, b2⟩ := pick_in x hn0
        obtain ⟨b, hb⟩ : ∃ b : Nat, pick x inn.length = b := ⟨(pick x inn.length).toNat, by omega⟩
        have hbl : b < inn.length := by omega
        have hpk := fun w1 => Pick_ok x hxwf inn.length hn0 (by omega) w1
        rw [hb] at hpk
        have HP := Lib.hid hpk
        have HT := Lib.hid (And.intro ha hw0)
        have HC := Lib.hid hcell
        have hki : (k : Int) < (nb : Int) := by omega
        have hne : ¬ inn = [] := fun e => by rw [e] at hn0; exact absurd hn0 (Nat.lt_irrefl 0)
        clear hpk hb ha hw0 hcell hc hAw t1 t2 t3 b1 b2
        go_wp2
        refine wp_region_plan (fun w0 => w0.cell? ⟨gi, offi + k, none⟩ = some (.int .i64 x)) 13 [(0, false), (1, false), (2, false), (3, false), (4, false), (5, false), (6, false), (7, false), (8, false), (9, false), (10, true), (11, false), (12, false)] (by kernel_rfl) (by kernel_rfl) ?_ ?_
        · exact HC.out
        iterate 3
          refine plan_look rfl rfl (fun w0 hS => (by clear hS; go_simp; try rfl)) ?_
          simp only [Act.put, List.setIfInBounds_toArray, List.set_cons_succ, List.set_cons_zero]
        refine plan_look (v := .int .i64 a) rfl rfl (fun w0 hS => (by clear hS; have h1 := HT.out.1; have h2 := HT.out.2; go_simp; try simp [h1, h2, hne])) ?_
        simp only [Act.put, List.setIfInBounds_toArray, List.set_cons_succ, List.set_cons_zero]
        iterate 3
          refine plan_look rfl rfl (fun w0 hS => (by clear hS; go_simp; try rfl)) ?_
          simp only [Act.put, List.setIfInBounds_toArray, List.set_cons_succ, List.set_cons_zero]
        refine plan_look (v := .int .i64 x) rfl rfl (fun w0 hS => (by go_simp; try rfl)) ?_
        simp only [Act.put, List.setIfInBounds_toArray, List.set_cons_succ, List.set_cons_zero]
        iterate 2
          refine plan_look rfl rfl (fun w0 hS => (by clear hS; go_simp; try rfl)) ?_
          simp only [Act.put, List.setIfInBounds_toArray, List.set_cons_succ, List.set_cons_zero]
        refine plan_do rfl ?_
        go_wp2_with fail
        refine (HP.out _).mono ?_; rintro e w9 ⟨rfl, rfl⟩
        dsimp only
        go_step
        refine wpList_nil ?_
        change _ ∧ _
        refine ⟨HC.out, ?_⟩
        iterate 2
          refine plan_look rfl rfl (fun w0 hS => (by clear hS; go_simp; try rfl)) ?_
          simp only [Act.put, List.setIfInBounds_toArray, List.set_cons_succ, List.set_cons_zero]
        refine plan_end ?_; simp only [List.drop_succ_cons, List.drop_zero]
        go_wp2
        refine NoPanic.normal ?_
        obtain ⟨xa, hxa⟩ : ∃ y, tl[a]? = some y := ⟨_, List.getElem?_eq_getElem (by omega)⟩
        obtain ⟨yb, hyb⟩ : ∃ y, tl[b]? = some y := ⟨_, List.getElem?_eq_getElem (by omega)⟩
        have hkt : KeyOk tl := fun x hx => HIN.out.2.1 x (HR.out.1.mem_iff.1 hx)
        have hga := HIN.out.1 xa (HR.out.1.mem_iff.1 (List.mem_of_getElem? hxa))
        have hgb := HIN.out.1 yb (HR.out.1.mem_iff.1 (List.mem_of_getElem? hyb))
        obtain ⟨gt, ct, cur, hv, hbg, hg0, hs0, hx0, hset⟩ := HR.out.2.1.drew.drew.open hkt (by omega)
        injection hv with hv1 hv2 hv3
        subst hv1
        have hma : a * 33 + 33 ≤ tl.length * 33 := by have := Nat.mul_le_mul_right 33 (show a + 1 ≤ tl.length by omega); omega
        have hmb : b * 33 + 33 ≤ tl.length * 33 := by have := Nat.mul_le_mul_right 33 (show b + 1 ≤ tl.length by omega); omega
        have hca := hx0 a xa hxa
        have hcb := hx0 b yb hyb
        have hset1 := hset a yb (by omega) hgb.key
        have hkt1 : KeyOk (tl.set a yb) := fun x hx => by
          rcases List.mem_or_eq_of_mem_set hx with h | h
          · exact hkt x h
          · rw [h]; exact hgb.key
        obtain ⟨gt', ct', cur', hv', _, hg1, hs1, _, hset'⟩ := hset1.open hkt1 (by rw [List.length_set]; omega)
        injection hv' with hv1' hv2' hv3'
        injection hv1' with hv1'
        injection hv1' with hv1' _ _
        have hset2 := hset' b xa (by rw [List.length_set]; omega) hga.key
        rw [← hv1'] at hg1 hset2
        have hpm := (swap_perm hxa hyb).trans HR.out.1
        obtain ⟨X, hX⟩ : ∃ X, X = xa.cells := ⟨_, rfl⟩
        obtain ⟨Y, hY⟩ : ∃ Y, Y = yb.cells := ⟨_, rfl⟩
        have hXs : X.size = 33 ∧ (∀ v ∈ X.toList, v.oneCell' = true) := by rw [hX]; exact ⟨Pr.size hga.key, Pr.one hga⟩
        have hYs : Y.size = 33 ∧ (∀ v ∈ Y.toList, v.oneCell' = true) := by rw [hY]; exact ⟨Pr.size hgb.key, Pr.one hgb⟩
        rw [← hX] at hca hset2
        rw [← hY] at hcb hg1 hset2
        rw [List.length_set] at hs1
        have HA := Lib.hid (And.intro hca (And.intro hcb (And.intro hg0 (And.intro hg1 (And.intro (show a * 33 + 33 ≤ cur.size by omega) (And.intro (show b * 33 + 33 ≤ cur.size by omega) (show b * 33 + 33 ≤ cur'.size by omega)))))))
        have HXY := Lib.hid (And.intro hXs hYs)
        have HS2 := Lib.hid (And.intro hset2 (And.intro hpm hbg))
        have hali : (a : Int) < (inn.length : Int) := by omega
        have hbli : (b : Int) < (inn.length : Int) := by omega
        clear hca hcb hg0 hg1 hs0 hs1 hx0 hset hset1 hset' hset2 hkt hkt1 hga hgb hma hmb hX hY hXs hYs hpm hbg hv1' hxa hyb hv3 hv2 hlen2 hv2' hv3'
        go_wp2
        refine wp_region_planK 12 (fun w0 => w0.heap[gt]? = some (.cells cur 32 (0, 0))) 16 [(0, 0), (1, 0), (2, 0), (3, 0), (4, 0), (5, 0), (6, 0), (7, 1), (8, 0), (9, 0), (10, 0), (11, 1), (12, 2), (13, 2), (14, 2), (15, 2)] (by kernel_rfl) (by kernel_rfl) ?_ ?_
        · exact HA.out.2.2.1
        iterate 7
          refine planK_look rfl rfl (fun w0 => (by go_simp; try rfl)) ?_
          simp only [Act.put, List.setIfInBounds_toArray, List.set_cons_succ, List.set_cons_zero]
        refine planK_load rfl rfl 32 _ rfl gt (b * 33) 33 (by simp [go_sem]) (fun w0 hS => hS) Try.underlying32 rfl sizePr HA.out.2.2.2.2.2.1 Y HA.out.2.1 ?_
        simp only [Act.put, List.setIfInBounds_toArray, List.set_cons_succ, List.set_cons_zero]
        iterate 3
          refine planK_look rfl rfl (fun w0 => (by go_simp; try rfl)) ?_
          simp only [Act.put, List.setIfInBounds_toArray, List.set_cons_succ, List.set_cons_zero]
        refine planK_load rfl rfl 32 _ rfl gt (a * 33) 33 (by simp [go_sem]) (fun w0 hS => hS) Try.underlying32 rfl sizePr HA.out.2.2.2.2.1 X HA.out.1 ?_
        simp only [Act.put, List.setIfInBounds_toArray, List.set_cons_succ, List.set_cons_zero]
        refine planK_do rfl ?_
        go_wp2
        refine ⟨.inl rfl, ?_⟩
        refine planK_do rfl ?_
        go_wp2_with (first
          | fail
          | ((with_reducible show wpList _ _ _ (⟨_, .store 32 _ _, _, _, _, _⟩ :: _) _ _); go_must (refine wpList_store_part rfl 32 _ _ rfl gt (a * 33) Y (by simp [go_sem]) rfl HA.out.2.2.1 (by rw [sizePr, HXY.out.2.1]) (by rw [HXY.out.2.1]; exact HA.out.2.2.2.2.1) HXY.out.2.2 _ rfl ?_)))
        refine ⟨.inl rfl, ?_⟩
        simp only [Act.put]
        refine planK_do rfl ?_
        go_wp2
        refine ⟨.inl rfl, ?_⟩
        refine planK_do rfl ?_
        go_wp2_with (first
          | fail
          | ((with_reducible show wpList _ _ _ (⟨_, .store 32 _ _, _, _, _, _⟩ :: _) _ _); go_must (refine wpList_store_part rfl 32 _ _ rfl gt (b * 33) X (by simp [go_sem]) rfl HA.out.2.2.2.1 (by rw [sizePr, HXY.out.1.1]) (by rw [HXY.out.1.1]; exact HA.out.2.2.2.2.2.2) HXY.out.1.2 _ rfl ?_)))
        refine ⟨.inl rfl, ?_⟩
        refine planK_end ?_
        simp only [List.drop_succ_cons, List.drop_zero]
        go_wp2
        refine NoPanic.normal ?_
        go_wp2
        go_roundg (gk - 1)
        case measure => have := HKG.out; omega
        case rel => exact ⟨k + 1, _, by simp, by have := HKG.out; omega, HS2.out.2.1, HS2.out.1, (HR.out.2.2.drew.drew.setRow (.inr HS2.out.2.2) _).setRow (.inr HS2.out.2.2) _⟩
set_option maxRecDepth 100000 in
/-- What is not gone through. -/
theorem turns_off (ao : Option Addr) (l : List Pr) (cap : Nat) (v : Value) (w : World) (hl : PairsAt w ao l) (hb : largeB l = true) :
    Calls Try.prog 3 #[.slice ao l.length cap, v] w fun e w' => e = .returned (.bool true) ∧ Adds w w' := by
  have hlg := fun w1 (a : Adds w w1) => large_ok cap (hl.keep a (fun _ h => h.elim))
  rw [hb] at hlg
  have HLG := Lib.hid hlg
  obtain ⟨len, hle⟩ : ∃ len, len = l.length := ⟨_, rfl⟩
  rw [← hle] at HLG ⊢
  clear hlg hb hle hl
  go_enter Try.func3, Try.ntmps3
  go_wp2_with fail
  refine (awake_ok _).mono ?_; rintro e w1 ⟨rfl, a1⟩
  have A1 := Lib.hid a1
  clear a1
  go_wp2_with fail
  refine (HLG.out _ A1.out).mono ?_; rintro e w2 ⟨rfl, rfl⟩
  go_wp2_with fail
  go_ret
  exact ⟨rfl, A1.out⟩
end Go.Proofs.Ytpeebeebakjpdaa.Law9

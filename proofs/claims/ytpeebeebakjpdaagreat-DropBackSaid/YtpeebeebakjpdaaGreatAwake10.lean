/- Layer 10's statements: what the document's examples say. -/
import Derived.Test.YtpeebeebakjpdaaGreatFill10
import Derived.Test.YtpeebeebakjpdaaGreatAwake9
namespace Go.Proofs.YtpeebeebakjpdaaGreat.Law10
open Go Go.RowKit Go.Proofs.YtpeebeebakjpdaaGreat Go.Proofs.YtpeebeebakjpdaaGreat.ShaW Go.Proofs.YtpeebeebakjpdaaGreat.Path Go.Proofs.YtpeebeebakjpdaaGreat.Store Go.Proofs.YtpeebeebakjpdaaGreat.Law9
set_option maxHeartbeats 1600000
set_option linter.unusedVariables false

def pr (k : List UInt8) : Pr := ⟨k, .slice none 0 0, []⟩
theorem pr_built0 : Tryz.prog.built 101 [(0, .agg (brow (keyL 0)))] = some (pr (keyL 0)).cells := by kernel_rfl
theorem pr_built1 : Tryz.prog.built 101 [(0, .agg (brow (keyL 128)))] = some (pr (keyL 128)).cells := by kernel_rfl
theorem run_buildSlice_two {P : Program} (w : World) (t e : TypeId) (ie : TypeInfo) (z v u : Value) (hu : P.underlying t = some (.slice e)) (hie : P.info? e = some ie) (hz : ie.zero = some z) (hsmall : ie.size ≤ 65536) (hpos : 0 < ie.size) (hv : v.cells.size = ie.size) (hu2 : u.cells.size = ie.size) :
    (Instr.buildSlice t 2 #[(0, v), (1, u)]).run P w = .ok (.slice (some ⟨w.heap.size, 0, none⟩) 2 2) (w.alloc (.cells (v.cells ++ u.cells) e)) := by
  refine run_buildSlice w t e 2 #[(0, v), (1, u)] (v.cells ++ u.cells) ie z hu hie hz (by omega) (by omega) ?_
  show Instr.fill _ _ [(0, v), (1, u)] = _
  rw [fill_step (off := 0) (size := ie.size) (by simp) hv (by simp; omega)]
  rw [fill_step (off := ie.size) (size := ie.size) (by simp) hu2 (by simp [splice, hv]; omega)]
  simp only [Instr.fill, splice, Option.some.injEq]
  apply Array.ext'
  simp [hv, hu2]
  omega
theorem wpList_buildSlice_two {P : Program} {w : World} {ops : Array Oper} {rest : List Oper} {o : Oper} {a : Act} {Q : Exit → Act → World → Prop} (hgd : o.guard = none) (t : TypeId) (x y : Operand) (ho : o.op = .buildSlice t 2 #[(0, x), (1, y)])
    (e : TypeId) (ie : TypeInfo) (z v u : Value) (hx : a.eval x = v) (hy : a.eval y = u) (hu : P.underlying t = some (.slice e)) (hie : P.info? e = some ie) (hz : ie.zero = some z) (hsmall : ie.size ≤ 65536) (hpos : 0 < ie.size) (hv : v.cells.size = ie.size) (hu2 : u.cells.size = ie.size)
    (h : wpList P ops Q rest (a.put o.dst (.slice (some ⟨w.heap.size, 0, none⟩) 2 2)) (w.alloc (.cells (v.cells ++ u.cells) e))) : wpList P ops Q (o :: rest) a w :=
  wpList_plain hgd fun _ hK => by
    unfold Oper.wp execOp
    have := run_buildSlice_two w t e ie z v u hu hie hz hsmall hpos hv hu2
    simp only [ho, List.map_toArray, List.map_cons, List.map_nil, hx, hy, Sem.run_bind, this, Result.andThen_ok]
    exact hK _ _ h
theorem two_at {w : World} {g : Nat} {t : TypeId} (h : w.heap[g]? = some (.cells ((pr (keyL 0)).cells ++ (pr (keyL 128)).cells) t (0, 0))) : PairsAt w (some ⟨g, 0, none⟩) [pr (keyL 0), pr (keyL 128)] := by
  have hg : ∀ k : List UInt8, k.length = 32 → (pr k).Good w := fun k hk => ⟨hk, Bytes.nil w, fun h => absurd rfl h⟩
  refine ⟨fun x hx => ?_, fun i x hx => ⟨g, 0, rfl, ?_⟩⟩
  · simp at hx
    rcases hx with rfl | rfl
    · exact hg _ rfl
    · exact hg _ rfl
  · match i, hx with
    | 0, hx =>
      simp at hx
      subst hx
      exact ⟨_, _, _, h, by decide, by kernel_rfl⟩
    | 1, hx =>
      simp at hx
      subst hx
      exact ⟨_, _, _, h, by decide, by kernel_rfl⟩
    | i + 2, hx => simp at hx
theorem ents2 : entsOf [pr (keyL 0), pr (keyL 128)] = upd (upd [] (keyL 0) []) (keyL 128) [] := rfl
theorem left2 : without (upd (upd [] (keyL 0) []) (keyL 128) []) (keyL 128) = [(keyL 0, [])] := by decide +kernel
theorem in2 : keyL 128 ∈ keysOf (upd (upd [] (keyL 0) []) (keyL 128) []) := by decide +kernel
theorem out2 : keyL 128 ∉ keysOf [(keyL 0, ([] : List UInt8))] := by decide +kernel
set_option maxRecDepth 100000 in
theorem awake_ok (w : World) : Calls Tryz.prog 19 #[] w fun e w' => e = .returned (.bool true) ∧ Adds w w' := by
  obtain ⟨K0, hK0⟩ : ∃ K, K = brow (keyL 0) := ⟨_, rfl⟩
  obtain ⟨K1, hK1⟩ : ∃ K, K = brow (keyL 128) := ⟨_, rfl⟩
  obtain ⟨C0, hC0⟩ : ∃ C, C = (pr (keyL 0)).cells := ⟨_, rfl⟩
  obtain ⟨C1, hC1⟩ : ∃ C, C = (pr (keyL 128)).cells := ⟨_, rfl⟩
  have hb0 := key_built
  have hb1 := key_built1
  have hp0 := pr_built0
  have hp1 := pr_built1
  rw [← hK0] at hb0 hp0
  rw [← hK1] at hb1 hp1
  rw [← hC0] at hp0
  rw [← hC1] at hp1
  have hcs : C0.size = 33 ∧ C1.size = 33 := by rw [hC0, hC1]; exact ⟨rfl, rfl⟩
  obtain ⟨i0, z0, p1, p2, p3, p4, p5⟩ := pair_info
  have HB := Lib.hid (And.intro hb0 (And.intro hb1 (And.intro hp0 (And.intro hp1 hcs))))
  have HI := Lib.hid (And.intro p1 (And.intro p2 p3))
  have HK1 := Lib.hid hK1
  have HCC := Lib.hid (And.intro hC0 hC1)
  clear hb0 hb1 hp0 hp1 hcs p1 p2 p3 p4 p5 hK0 hK1 hC0 hC1
  go_enter Tryz.func19, Tryz.ntmps19
  have hpat : PairsAt (w.alloc (.cells (C0 ++ C1) 101)) (some ⟨w.heap.size, 0, none⟩) [pr (keyL 0), pr (keyL 128)] := by
    rw [HCC.out.1, HCC.out.2]
    exact two_at (heap_alloc_new _ _)
  have hfl := filled_ok 2 hpat (by decide) (by decide)
  have HF := Lib.hid hfl
  clear hpat hfl
  go_wp2_with (first
    | fail
    | ((with_reducible show wpList _ _ _ (⟨_, .build 34 #[], _, _, _, _⟩ :: _) _ _); refine wpList_build_none rfl 34 rfl K0 HB.out.1 ?_)
    | ((with_reducible show wpList _ _ _ (⟨_, .build 34 _, _, _, _, _⟩ :: _) _ _); refine wpList_build_one rfl 34 0 _ rfl (.int .u8 128) rfl K1 HB.out.2.1 ?_)
    | ((with_reducible show wpList _ _ _ (⟨_, .build 101 #[(0, .tmp 11)], _, _, _, _⟩ :: _) _ _); refine wpList_build_one rfl 101 0 _ rfl (.agg K0) rfl C0 HB.out.2.2.1 ?_)
    | ((with_reducible show wpList _ _ _ (⟨_, .build 101 _, _, _, _, _⟩ :: _) _ _); refine wpList_build_one rfl 101 0 _ rfl (.agg K1) rfl C1 HB.out.2.2.2.1 ?_)
    | ((with_reducible show wpList _ _ _ (⟨_, .buildSlice 50 _ _, _, _, _, _⟩ :: _) _ _); refine wpList_buildSlice_two rfl 50 _ _ rfl 101 i0 z0 (.agg C0) (.agg C1) rfl rfl Tryz.underlying50 HI.out.1 HI.out.2.1 (by rw [HI.out.2.2]; decide) (by rw [HI.out.2.2]; decide) (by rw [HI.out.2.2]; exact HB.out.2.2.2.2.1) (by rw [HI.out.2.2]; exact HB.out.2.2.2.2.2) ?_; dsimp only [Value.cells]))
  refine HF.out.mono ?_; rintro e w2 ⟨s, σ1, r1, rfl, h2⟩
  rw [ents2] at h2
  have hd := Drop_db h2.own h2.db (key := keyL 128) rfl (by have := h2.live; rw [h2.room]; simp at this; omega) (by have := h2.total; simp at this; omega)
  rw [left2, ← HK1.out] at hd
  have HD := Lib.hid hd
  have H2 := Lib.hid h2
  clear hd h2 HF
  go_wp2_with (first
    | fail
    | ((with_reducible show wpList _ _ _ (⟨_, .build 34 _, _, _, _, _⟩ :: _) _ _); refine wpList_build_one rfl 34 0 _ rfl (.int .u8 128) rfl K1 HB.out.2.1 ?_))
  refine HD.out.mono ?_; rintro e w3 ⟨r2, σ2, gone, rfl, o3, b3, C3, D3, hg3, _⟩
  obtain rfl : gone = true := hg3.2 in2
  have S3 := C3.sole H2.out.sole
  have hz3 : (nd σ2 r2).size = 1 := by rw [D3.size, tree_one]; show wrap64 ((1 : Nat) : Int) = 1; unfold wrap64; omega
  have hu3 : σ2.used = 1 := by rw [D3.good.used, D3.live S3, tree_one]; rfl
  have hk3 : (nd σ2 r2).kind = 1 := by
    have hr := D3.rep
    rw [tree_one] at hr
    generalize ht : Tr.leaf (keyL 0, ([] : List UInt8)).1 (keyL 0, ([] : List UInt8)).2 = tt at hr
    cases hr with
    | nil => cases ht
    | node _ _ _ _ _ => cases ht
    | leaf hn hk => rw [nd_kind hn]; exact hk
  have hd := Drop_db o3 D3 (key := keyL 128) rfl (by have := C3.live; have := H2.out.live; rw [C3.room, H2.out.room]; simp at this; omega) (by have := C3.total; have := H2.out.total; simp at this; omega)
  rw [← HK1.out] at hd
  have HD2 := Lib.hid hd
  obtain ⟨F3, hF3⟩ := o3.at
  have HN := Lib.hid (And.intro hz3 (And.intro hu3 hk3))
  clear hd hz3 hu3 hk3 S3 o3 b3 C3 D3 hg3 HD H2 hF3
  go_wp2_with (first
    | fail
    | ((with_reducible show wpList _ _ _ (⟨_, .build 34 _, _, _, _, _⟩ :: _) _ _); refine wpList_build_one rfl 34 0 _ rfl (.int .u8 128) rfl K1 HB.out.2.1 ?_))
  refine HD2.out.mono ?_; rintro e w4 ⟨r4, σ4, gone4, rfl, o4, b4, C4, D4, hg4, hno4⟩
  obtain rfl : gone4 = false := by
    cases gone4 with
    | false => rfl
    | true => exact absurd (hg4.1 rfl) out2
  obtain ⟨rfl, rfl⟩ := hno4 rfl
  obtain ⟨F4, hF4⟩ := o4.at
  have hsz := Size_ok hF4 r4
  have hoc := fun w5 (a : Adds w4 w5) => Occupied_ok (hF4.adds a)
  have hkd := fun w5 (a : Adds w4 w5) => Kind_ok (hF4.adds a) r4
  rw [HN.out.1] at hsz
  rw [HN.out.2.1] at hoc
  rw [HN.out.2.2] at hkd
  have HS := Lib.hid (And.intro hsz (And.intro hoc hkd))
  have H4 := Lib.hid o4.world
  clear hsz hoc hkd hF4 o4 b4 C4 D4 hg4 hno4 HD2 HN
  go_wp2_with fail
  refine HS.out.1.mono ?_; rintro e w5 ⟨rfl, a5⟩
  have A5 := Lib.hid a5
  clear a5
  go_wp2_with fail
  refine (HS.out.2.1 _ A5.out).mono ?_; rintro e w6 ⟨rfl, rfl⟩
  go_wp2_with fail
  refine (HS.out.2.2 _ A5.out).mono ?_; rintro e w7 ⟨rfl, a7⟩
  have A7 := Lib.hid (A5.out.trans a7 (fun _ h => h.elim))
  clear a7
  go_wp2
  go_ret
  exact ⟨rfl, (((Ch.refl (fun _ => False) w).alloc _).trans H4.out (fun _ h => h.elim)).trans A7.out (fun _ h => h.elim)⟩
end Go.Proofs.YtpeebeebakjpdaaGreat.Law10

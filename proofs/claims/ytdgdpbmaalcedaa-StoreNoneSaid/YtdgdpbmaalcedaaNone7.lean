/- StoreNone: all is answered as of no store: the walk. -/
import Derived.Test.YtdgdpbmaalcedaaAct7
import Derived.Test.YtdgdpbmaalcedaaStoreZ
namespace Go.Proofs.Ytdgdpbmaalcedaa.Law7
open Go Go.RowKit Go.Proofs.Ytdgdpbmaalcedaa Go.Proofs.Ytdgdpbmaalcedaa.ShaW Go.Proofs.Ytdgdpbmaalcedaa.Path Go.Proofs.Ytdgdpbmaalcedaa.Store
set_option maxHeartbeats 3200000
set_option linter.unusedVariables false

theorem zc66 : brow Nd.z32 = #[.int .u8 0, .int .u8 0, .int .u8 0, .int .u8 0, .int .u8 0, .int .u8 0, .int .u8 0, .int .u8 0, .int .u8 0, .int .u8 0, .int .u8 0, .int .u8 0, .int .u8 0, .int .u8 0, .int .u8 0, .int .u8 0, .int .u8 0, .int .u8 0, .int .u8 0, .int .u8 0, .int .u8 0, .int .u8 0, .int .u8 0, .int .u8 0, .int .u8 0, .int .u8 0, .int .u8 0, .int .u8 0, .int .u8 0, .int .u8 0, .int .u8 0, .int .u8 0] := by kernel_rfl
theorem zc71 : brow Nd.z32 = #[.int .u8 0, .int .u8 0, .int .u8 0, .int .u8 0, .int .u8 0, .int .u8 0, .int .u8 0, .int .u8 0, .int .u8 0, .int .u8 0, .int .u8 0, .int .u8 0, .int .u8 0, .int .u8 0, .int .u8 0, .int .u8 0, .int .u8 0, .int .u8 0, .int .u8 0, .int .u8 0, .int .u8 0, .int .u8 0, .int .u8 0, .int .u8 0, .int .u8 0, .int .u8 0, .int .u8 0, .int .u8 0, .int .u8 0, .int .u8 0, .int .u8 0, .int .u8 0] := by kernel_rfl
theorem zc141 : nodeZ = Try.zeroCells141 := by kernel_rfl
theorem eq66 (w0 : World) : (Go.binOp BinOp.eql 66 (.agg #[.int .u8 0, .int .u8 0, .int .u8 0, .int .u8 0, .int .u8 0, .int .u8 0, .int .u8 0, .int .u8 0, .int .u8 0, .int .u8 0, .int .u8 0, .int .u8 0, .int .u8 0, .int .u8 0, .int .u8 0, .int .u8 0, .int .u8 0, .int .u8 0, .int .u8 0, .int .u8 0, .int .u8 0, .int .u8 0, .int .u8 0, .int .u8 0, .int .u8 0, .int .u8 0, .int .u8 0, .int .u8 0, .int .u8 0, .int .u8 0, .int .u8 0, .int .u8 0]) (.agg #[.int .u8 0, .int .u8 0, .int .u8 0, .int .u8 0, .int .u8 0, .int .u8 0, .int .u8 0, .int .u8 0, .int .u8 0, .int .u8 0, .int .u8 0, .int .u8 0, .int .u8 0, .int .u8 0, .int .u8 0, .int .u8 0, .int .u8 0, .int .u8 0, .int .u8 0, .int .u8 0, .int .u8 0, .int .u8 0, .int .u8 0, .int .u8 0, .int .u8 0, .int .u8 0, .int .u8 0, .int .u8 0, .int .u8 0, .int .u8 0, .int .u8 0, .int .u8 0])).run Try.prog w0 = .ok (.bool true) w0 := by kernel_rfl
theorem eq71 (w0 : World) : (Go.binOp BinOp.eql 71 (.agg #[.int .u8 0, .int .u8 0, .int .u8 0, .int .u8 0, .int .u8 0, .int .u8 0, .int .u8 0, .int .u8 0, .int .u8 0, .int .u8 0, .int .u8 0, .int .u8 0, .int .u8 0, .int .u8 0, .int .u8 0, .int .u8 0, .int .u8 0, .int .u8 0, .int .u8 0, .int .u8 0, .int .u8 0, .int .u8 0, .int .u8 0, .int .u8 0, .int .u8 0, .int .u8 0, .int .u8 0, .int .u8 0, .int .u8 0, .int .u8 0, .int .u8 0, .int .u8 0]) (.agg #[.int .u8 0, .int .u8 0, .int .u8 0, .int .u8 0, .int .u8 0, .int .u8 0, .int .u8 0, .int .u8 0, .int .u8 0, .int .u8 0, .int .u8 0, .int .u8 0, .int .u8 0, .int .u8 0, .int .u8 0, .int .u8 0, .int .u8 0, .int .u8 0, .int .u8 0, .int .u8 0, .int .u8 0, .int .u8 0, .int .u8 0, .int .u8 0, .int .u8 0, .int .u8 0, .int .u8 0, .int .u8 0, .int .u8 0, .int .u8 0, .int .u8 0, .int .u8 0])).run Try.prog w0 = .ok (.bool true) w0 := by kernel_rfl
theorem eq141 (w0 : World) : (Go.binOp BinOp.eql 141 (.agg Try.zeroCells141) (.agg Try.zeroCells141)).run Try.prog w0 = .ok (.bool true) w0 := by kernel_rfl

set_option maxRecDepth 100000 in
theorem none7 {w : World} {v : Value} (h : NoStore w v) (x : Act7) (hx : x.Good w) :
    Calls Try.prog 46 #[v, .agg x.cells] w fun e w' => e = .returned (.bool true) ∧ Adds w w' := by
  have hk := hx.key
  have q1 := Act7.at_key hk
  have q2 := Act7.at_val hk
  have q3 := Act7.at_d hk
  have q4 := Act7.at_a hk
  have q5 := Act7.at_b hk
  have qs := Act7.size hk
  have hb := hx.val
  obtain ⟨kind, key, vv, val, d, a, b⟩ := x
  simp only at hk q1 q2 q3 q4 q5 hb
  obtain ⟨ao, cap, rfl, _, _⟩ := hb.form
  obtain ⟨C, hC⟩ : ∃ C, C = Act7.cells ⟨kind, key, .slice ao val.length cap, val, d, a, b⟩ := ⟨_, rfl⟩
  rw [← hC] at q1 q2 q3 q4 q5 qs ⊢
  obtain ⟨K, hK⟩ : ∃ K, K = brow key := ⟨_, rfl⟩
  rw [← hK] at q1
  have hr := heap_alloc_new w (.cells C 79)
  have hn1 := h.adds ((Ch.refl (fun _ => False) w).alloc (.cells C 79))
  have hw1 : Adds w (w.alloc (.cells C 79)) := (Ch.refl _ _).alloc _
  have e66 := eq66
  have e71 := eq71
  have e141 := eq141
  have c2 := row_cell hr q2
  have c3 := row_cell hr q3
  have c4 := row_cell hr q4
  have c5 := row_cell hr q5
  have HQ := Lib.hid (And.intro qs (And.intro q1 (And.intro hr (And.intro q4 hw1))))
  have HN := Lib.hid hn1
  clear hC hx hK hr hn1 hw1 q1 q2 q3 q4 q5 qs hb h hk
  generalize val.length = len at *
  go_enter Try.func46, Try.ntmps46
  go_wp2_with (first
    | ((with_reducible show wpList _ _ _ (⟨_, .load 66 _, _, _, _, _⟩ :: _) _ _); refine wpList_load_part rfl 66 _ rfl w.heap.size 1 rfl HQ.out.2.2.1 Try.underlying66 rfl sizeP (by rw [HQ.out.1]; omega) K HQ.out.2.1 ?_))
  refine (Leaf_z HN.out K ao len cap).mono ?_; rintro e w1 ⟨rfl, ha1⟩
  have N1 := Lib.hid (And.intro (HN.out.adds ha1) (And.intro (HQ.out.2.2.2.2.trans ha1 (fun _ h => h.elim)) (ha1.row HQ.out.2.2.1 id)))
  have d3 := ha1.cell c3 id
  have d4 := ha1.cell c4 id
  have d5 := ha1.cell c5 id
  clear ha1 c2 c3 c4 c5
  go_wp2_with fail
  refine (Inner_z N1.out.1 d a b).mono ?_; rintro e w2 ⟨rfl, rfl⟩
  go_wp2_with fail
  refine (Drop_z N1.out.1 a).mono ?_; rintro e w2 ⟨rfl, rfl⟩
  go_wp2_with fail
  refine (Sides_z N1.out.1 a).mono ?_; rintro e w2 ⟨rfl, ha2⟩
  have N2 := Lib.hid (And.intro (N1.out.1.adds ha2) (And.intro (N1.out.2.1.trans ha2 (fun _ h => h.elim)) (ha2.row N1.out.2.2 id)))
  have b4 := ha2.cell d4 id
  clear ha2 d3 d4 d5 N1
  go_wp2_with fail
  refine (Hold_z N2.out.1 a).mono ?_; rintro e w3 ⟨rfl, rfl⟩
  go_wp2_with fail
  refine (Root_z N2.out.1 a).mono ?_; rintro e w3 ⟨rfl, rfl⟩
  go_wp2_with fail
  refine (Kind_z N2.out.1 a).mono ?_; rintro e w3 ⟨rfl, ha3⟩
  have N3 := Lib.hid (And.intro (N2.out.1.adds ha3) (N2.out.2.1.trans ha3 (fun _ h => h.elim)))
  have a4 := ha3.cell b4 id
  clear ha3 b4 N2
  go_wp2_with fail
  refine (Key_z N3.out.1 a).mono ?_; rintro e w4 ⟨rfl, ha4⟩
  rw [zc66]
  have N4 := Lib.hid (And.intro (N3.out.1.adds ha4) (N3.out.2.trans ha4 (fun _ h => h.elim)))
  have b4 := ha4.cell a4 id
  clear ha4 a4 N3
  go_wp2_with fail
  refine (Value_z N4.out.1 a).mono ?_; rintro e w5 ⟨⟨vo, vc, rfl⟩, ha5⟩
  have N5 := Lib.hid (And.intro (N4.out.1.adds ha5) (N4.out.2.trans ha5 (fun _ h => h.elim)))
  have a4 := ha5.cell b4 id
  clear ha5 b4 N4
  go_wp2_with fail
  refine (Digest_z N5.out.1 a).mono ?_; rintro e w6 ⟨rfl, ha6⟩
  rw [zc71]
  have N6 := Lib.hid (And.intro (N5.out.1.adds ha6) (N5.out.2.trans ha6 (fun _ h => h.elim)))
  have b4 := ha6.cell a4 id
  clear ha6 a4 N5
  go_wp2_with fail
  refine (Node_z N6.out.1 a).mono ?_; rintro e w7 ⟨rfl, ha7⟩
  rw [zc141]
  have N7 := Lib.hid (And.intro (N6.out.1.adds ha7) (N6.out.2.trans ha7 (fun _ h => h.elim)))
  have a4 := ha7.cell b4 id
  clear ha7 b4 N6
  go_wp2_with fail
  refine (Size_z N7.out.1 a).mono ?_; rintro e w8 ⟨rfl, ha8⟩
  have N8 := Lib.hid (And.intro (N7.out.1.adds ha8) (N7.out.2.trans ha8 (fun _ h => h.elim)))
  have b4 := ha8.cell a4 id
  clear ha8 a4 N7
  go_wp2_with fail
  refine (Count_z N8.out.1 a).mono ?_; rintro e w9 ⟨rfl, rfl⟩
  go_wp2_with fail
  refine (Held_z N8.out.1 a).mono ?_; rintro e w9 ⟨rfl, ha9⟩
  have N9 := Lib.hid (And.intro (N8.out.1.adds ha9) (N8.out.2.trans ha9 (fun _ h => h.elim)))
  have a4 := ha9.cell b4 id
  clear ha9 b4 N8
  go_wp2_with fail
  refine (Has_z N9.out.1 a).mono ?_; rintro e w10 ⟨rfl, ha10⟩
  have N10 := Lib.hid (And.intro (N9.out.1.adds ha10) (N9.out.2.trans ha10 (fun _ h => h.elim)))
  clear ha10 a4 N9
  go_wp2_with fail
  refine (Occupied_z N10.out.1).mono ?_; rintro e w11 ⟨rfl, rfl⟩
  go_wp2_with fail
  refine (Room_z N10.out.1).mono ?_; rintro e w11 ⟨rfl, rfl⟩
  go_wp2_with fail
  refine (Handles_z N10.out.1).mono ?_; rintro e w11 ⟨rfl, rfl⟩
  go_wp2
  go_ret
  exact ⟨rfl, N10.out.2⟩

set_option maxRecDepth 100000 in
theorem none_law (x : Act7) (w : World) (hx : x.Good w) :
    Calls Try.prog 9 #[.agg x.cells] w fun e w' => e = .returned (.bool true) ∧ Adds w w' := by
  have qs := Act7.size hx.key
  have hsz : (Try.prog.info? 79).map (·.size) = some 37 := by kernel_rfl
  have hw1 : Adds w (w.alloc (.cells x.cells 79)) := (Ch.refl _ _).alloc _
  have hn := fun w1 (v : Value) (ha : Adds w w1) (hv : NoStore w1 v) => none7 hv x (hx.keep ha (fun _ h => h.elim))
  obtain ⟨C, hC⟩ : ∃ C, C = x.cells := ⟨_, rfl⟩
  rw [← hC] at qs hw1 hn ⊢
  have hr := heap_alloc_new w (.cells C 79)
  have HQ := Lib.hid (And.intro qs (And.intro hsz (And.intro hr hw1)))
  have HN := Lib.hid hn
  clear hC qs hsz hr hw1 hn hx
  go_enter Try.func9, Try.ntmps9
  go_wp2_with (first
    | ((with_reducible show wpList _ _ _ (⟨_, .load 79 _, _, _, _, _⟩ :: _) _ _); refine wpList_load_part rfl 79 _ rfl w.heap.size 0 rfl HQ.out.2.2.1 Try.underlying79 rfl HQ.out.2.1 (by rw [HQ.out.1]; omega) C (by simp [← HQ.out.1]) ?_))
  refine (HN.out _ _ HQ.out.2.2.2 (.inl rfl)).mono ?_; rintro e w1 ⟨rfl, ha1⟩
  have N1 := Lib.hid (And.intro (HQ.out.2.2.2.trans ha1 (fun _ h => h.elim)) (ha1.row HQ.out.2.2.1 id))
  clear ha1
  go_wp2_with (first
    | ((with_reducible show wpList _ _ _ (⟨_, .load 79 _, _, _, _, _⟩ :: _) _ _); refine wpList_gload_part (by first | rfl | (simp [Region.wanted]; done)) 79 _ rfl w.heap.size 0 rfl (row_alloc N1.out.2 _) Try.underlying79 rfl HQ.out.2.1 (by rw [HQ.out.1]; omega) C (by simp [← HQ.out.1]) ?_))
  refine (HN.out _ _ (N1.out.1.alloc _) (.inr ⟨_, rfl, heap_alloc_new _ _⟩)).mono ?_; rintro e w2 ⟨rfl, ha2⟩
  have N2 := Lib.hid ((N1.out.1.alloc _).trans ha2 (fun _ h => h.elim))
  clear ha2
  go_wp2_with fail
  refine (awake_ok _).mono ?_; rintro e w3 ⟨rfl, ha3⟩
  have N3 := Lib.hid (N2.out.trans ha3 (fun _ h => h.elim))
  clear ha3
  go_wp2
  go_ret
  exact ⟨rfl, N3.out⟩

end Go.Proofs.Ytdgdpbmaalcedaa.Law7

/- Layer 9's statements: what the document's examples say. -/
import Derived.Test.YtpeebeebakjpdaaPutP2
namespace Go.Proofs.Ytpeebeebakjpdaa.Law9
open Go Go.RowKit Go.Proofs.Ytpeebeebakjpdaa Go.Proofs.Ytpeebeebakjpdaa.ShaW Go.Proofs.Ytpeebeebakjpdaa.Path Go.Proofs.Ytpeebeebakjpdaa.Store
set_option maxHeartbeats 800000
set_option linter.unusedVariables false

theorem wpList_build_one {P : Program} {w : World} {ops : Array Oper} {rest : List Oper} {o : Oper} {a : Act} {Q : Exit → Act → World → Prop} (hgd : o.guard = none) (t k : Nat) (x : Operand) (ho : o.op = .build t #[(k, x)]) (vx : Value) (hx : a.eval x = vx)
    (cells : Array Value) (hf : P.built t [(k, vx)] = some cells) (h : wpList P ops Q rest (a.put o.dst (.agg cells)) w) : wpList P ops Q (o :: rest) a w :=
  wpList_build_is hgd t #[(k, x)] ho cells (by simpa [hx] using hf) h
theorem key_built : Try.prog.built 29 [] = some (brow (keyL 0)) := by kernel_rfl
theorem key_built1 : Try.prog.built 29 [(0, .int .u8 128)] = some (brow (keyL 128)) := by kernel_rfl
/-- The tree behind the two writes. -/
theorem tree1 : (tree 256 (upd [] (keyL 0) [])).nodes = 1 ∧ (tree 256 (upd [] (keyL 0) [])).leaves = 1 := ⟨rfl, rfl⟩
theorem tree2 : (tree 256 (upd (upd [] (keyL 0) []) (keyL 128) [])).nodes = 3 ∧ (tree 256 (upd (upd [] (keyL 0) []) (keyL 128) [])).leaves = 2 := by
  have h := ins_tree (L := upd [] (keyL 0) []) (k := keyL 128) (v := []) 256 (Nat.le_refl _) ⟨by decide, by decide, fun _ _ _ h => absurd h (Nat.not_lt_zero _)⟩ rfl
  rw [← h]
  exact ⟨by decide +kernel, by decide +kernel⟩
theorem in0 : (keyL 0, []) ∈ upd (upd [] (keyL 0) []) (keyL 128) [] := List.mem_cons_of_mem _ (List.mem_filter.2 ⟨List.mem_cons_self .., by decide +kernel⟩)
set_option maxRecDepth 100000 in
theorem awake_ok (w : World) : Calls Try.prog 10 #[] w fun e w' => e = .returned (.bool true) ∧ Adds w w' := by
  obtain ⟨K0, hK0⟩ : ∃ K, K = brow (keyL 0) := ⟨_, rfl⟩
  obtain ⟨K1, hK1⟩ : ∃ K, K = brow (keyL 128) := ⟨_, rfl⟩
  have hb0 := key_built
  have hb1 := key_built1
  rw [← hK0] at hb0
  rw [← hK1] at hb1
  have HB0 := Lib.hid hb0
  have HB1 := Lib.hid hb1
  have HK0 := Lib.hid hK0
  have HK1 := Lib.hid hK1
  clear hb0 hb1 hK0 hK1
  go_enter Try.func10, Try.ntmps10
  go_wp2_with fail
  refine (New_own 600 w (by decide) (by decide)).mono ?_; rintro e w1 ⟨s, rfl, h1⟩
  have D0 := Db.new 600 (by decide) (by decide)
  have hp := Put_db (h1.ow.less (G' := fun _ => False) (fun _ h => h.elim)) D0 (key := keyL 0) (bs := []) rfl (Bytes.nil _) (fun h => absurd rfl h) (by simp) (by decide) (by decide)
  rw [← HK0.out] at hp
  have HP := Lib.hid hp
  clear hp h1
  go_wp2_with (first
    | fail
    | ((with_reducible show wpList _ _ _ (⟨_, .build 29 #[], _, _, _, _⟩ :: _) _ _); refine wpList_build_none rfl 29 rfl K0 HB0.out ?_)
    | ((with_reducible show wpList _ _ _ (⟨_, .build 29 _, _, _, _, _⟩ :: _) _ _); refine wpList_build_one rfl 29 0 _ rfl (.int .u8 128) rfl K1 HB1.out ?_))
  refine HP.out.mono ?_; rintro e w2 ⟨r1, σ1, rfl, o2, b2, W2, D2, _⟩
  have S2 := W2.sole (Sole.new 600 0)
  have hz1 : (nd σ1 r1).size = 1 := by rw [D2.size, tree1.2]; unfold wrap64; omega
  have hu1 : σ1.used = 1 := by rw [D2.good.used, D2.live S2, tree1.1]
  obtain ⟨F1, hF1⟩ := o2.at
  have hsz := Size_ok hF1 r1
  rw [hz1] at hsz
  have hoc := fun w1 (a : Adds w2 w1) => Occupied_ok (hF1.adds a)
  rw [hu1] at hoc
  have HS := Lib.hid hsz
  have HO := Lib.hid hoc
  have hl1 : live σ1 + 258 ≤ σ1.room := by rw [← D2.good.used, hu1, W2.room]; decide
  have ht1 : total σ1 + 600 < 1073741824 := by have := W2.total; rw [show total (⟨600, [], []⟩ : SlabSt Nd) = 0 from rfl] at this; omega
  have H2 := Lib.hid o2
  have HW2 := Lib.hid W2
  have HS2 := Lib.hid S2
  have HT1 := Lib.hid (And.intro hl1 ht1)
  have HD2 := Lib.hid D2
  clear hsz hoc hF1 hz1 o2 b2 W2 HP S2 hl1 ht1 hu1 D2 D0
  go_wp2_with fail
  refine HS.out.mono ?_; rintro e w3 ⟨rfl, a3⟩
  have A3 := Lib.hid a3
  clear a3
  go_wp2_with fail
  refine (HO.out _ A3.out).mono ?_; rintro e w4 ⟨rfl, rfl⟩
  have hp := Put_db (H2.out.adds A3.out) HD2.out (key := keyL 128) (bs := []) rfl (Bytes.nil _) (fun h => absurd rfl h) (by simp) HT1.out.1 HT1.out.2
  rw [← HK1.out] at hp
  have HP := Lib.hid hp
  clear hp
  go_wp2_with (first
    | fail
    | ((with_reducible show wpList _ _ _ (⟨_, .build 29 #[], _, _, _, _⟩ :: _) _ _); refine wpList_build_none rfl 29 rfl K0 HB0.out ?_)
    | ((with_reducible show wpList _ _ _ (⟨_, .build 29 _, _, _, _, _⟩ :: _) _ _); refine wpList_build_one rfl 29 0 _ rfl (.int .u8 128) rfl K1 HB1.out ?_))
  refine HP.out.mono ?_; rintro e w5 ⟨r2, σ2, rfl, o5, b5, W5, D5, _⟩
  have S5 := W5.sole HS2.out
  have hz2 : (nd σ2 r2).size = 2 := by rw [D5.size, tree2.2]; unfold wrap64; omega
  have hu2 : σ2.used = 3 := by rw [D5.good.used, D5.live S5, tree2.1]
  obtain ⟨F2, hF2⟩ := o5.at
  have hsz := Size_ok hF2 r2
  rw [hz2] at hsz
  have hoc := fun w1 (a : Adds w5 w1) => Occupied_ok (hF2.adds a)
  rw [hu2] at hoc
  have HS' := Lib.hid hsz
  have HO' := Lib.hid hoc
  have hl2 : live σ2 + 258 ≤ σ2.room := by rw [← D5.good.used, hu2, W5.room, HW2.out.room]; decide
  have ht2 : total σ2 + 600 < 1073741824 := by have := W5.total; have := HW2.out.total; rw [show total (⟨600, [], []⟩ : SlabSt Nd) = 0 from rfl] at this; omega
  have H5 := Lib.hid o5
  have HT2 := Lib.hid (And.intro hl2 ht2)
  have HD5 := Lib.hid D5
  clear hsz hoc hF2 hz2 o5 b5 W5 HP S5 HS HO hl2 ht2 hu2 D5
  go_wp2_with fail
  refine HS'.out.mono ?_; rintro e w6 ⟨rfl, a6⟩
  have A6 := Lib.hid a6
  clear a6
  go_wp2_with fail
  refine (HO'.out _ A6.out).mono ?_; rintro e w7 ⟨rfl, rfl⟩
  have hp := Put_db (H5.out.adds A6.out) HD5.out (key := keyL 0) (bs := []) rfl (Bytes.nil _) (fun h => absurd rfl h) (by simp) HT2.out.1 HT2.out.2
  rw [← HK0.out] at hp
  have HP := Lib.hid hp
  clear hp
  go_wp2_with (first
    | fail
    | ((with_reducible show wpList _ _ _ (⟨_, .build 29 #[], _, _, _, _⟩ :: _) _ _); refine wpList_build_none rfl 29 rfl K0 HB0.out ?_)
    | ((with_reducible show wpList _ _ _ (⟨_, .build 29 _, _, _, _, _⟩ :: _) _ _); refine wpList_build_one rfl 29 0 _ rfl (.int .u8 128) rfl K1 HB1.out ?_))
  refine HP.out.mono ?_; rintro e w8 ⟨r3, σ3, rfl, o8, b8, W8, D8, hsame⟩
  obtain ⟨rfl, rfl⟩ := hsame in0
  have H8 := Lib.hid o8.world
  clear o8 b8 W8 D8 hsame
  go_wp2
  go_ret
  exact ⟨rfl, H8.out⟩
end Go.Proofs.Ytpeebeebakjpdaa.Law9

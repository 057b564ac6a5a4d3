/- Layer 9's statements: what the document's examples say. -/
import Derived.Test.YtmeglndnkdgkoaaGreatPutP2
namespace Go.Proofs.YtmeglndnkdgkoaaGreat.Law9
open Go Go.RowKit Go.Proofs.YtmeglndnkdgkoaaGreat Go.Proofs.YtmeglndnkdgkoaaGreat.ShaW Go.Proofs.YtmeglndnkdgkoaaGreat.Path Go.Proofs.YtmeglndnkdgkoaaGreat.Store
set_option maxHeartbeats 800000
set_option linter.unusedVariables false

theorem wpList_build_one {P : Program} {w : World} {ops : Array Oper} {rest : List Oper} {o : Oper} {a : Act} {Q : Exit → Act → World → Prop} (hgd : o.guard = none) (t k : Nat) (x : Operand) (ho : o.op = .build t #[(k, x)]) (vx : Value) (hx : a.eval x = vx)
    (cells : Array Value) (hf : P.built t [(k, vx)] = some cells) (h : wpList P ops Q rest (a.put o.dst (.agg cells)) w) : wpList P ops Q (o :: rest) a w :=
  wpList_build_is hgd t #[(k, x)] ho cells (by simpa [hx] using hf) h
theorem key_built : Tryz.prog.built 31 [] = some (brow (keyL 0)) := by kernel_rfl
theorem key_built1 : Tryz.prog.built 31 [(0, .int .u8 128)] = some (brow (keyL 128)) := by kernel_rfl
/-- The tree behind the two writes. -/
theorem tree1 : (tree 256 (upd [] (keyL 0) [])).nodes = 1 ∧ (tree 256 (upd [] (keyL 0) [])).leaves = 1 := ⟨rfl, rfl⟩
theorem tree2 : (tree 256 (upd (upd [] (keyL 0) []) (keyL 128) [])).nodes = 3 ∧ (tree 256 (upd (upd [] (keyL 0) []) (keyL 128) [])).leaves = 2 := by
  have h := ins_tree (L := upd [] (keyL 0) []) (k := keyL 128) (v := []) 256 (Nat.le_refl _) ⟨by decide, by decide, fun _ _ _ h => absurd h (Nat.not_lt_zero _)⟩ rfl
  rw [← h]
  exact ⟨by decide +kernel, by decide +kernel⟩
theorem in0 : (keyL 0, []) ∈ upd (upd [] (keyL 0) []) (keyL 128) [] := List.mem_cons_of_mem _ (List.mem_filter.2 ⟨List.mem_cons_self .., by decide +kernel⟩)
end Go.Proofs.YtmeglndnkdgkoaaGreat.Law9

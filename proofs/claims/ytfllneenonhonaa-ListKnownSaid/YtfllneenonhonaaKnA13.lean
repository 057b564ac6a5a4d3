/- ListKnown: what the calls come to at the three entries. -/
import Derived.Test.YtfllneenonhonaaAwake13
import Derived.Test.YtfllneenonhonaaList2
namespace Go.Proofs.Ytfllneenonhonaa.Law13
open Go Go.RowKit Go.Proofs.Ytfllneenonhonaa Go.Proofs.Ytfllneenonhonaa.ShaW Go.Proofs.Ytfllneenonhonaa.Path Go.Proofs.Ytfllneenonhonaa.Store Go.Proofs.Ytfllneenonhonaa.Law9
set_option maxHeartbeats 1600000
set_option linter.unusedVariables false

def key0 : List UInt8 := List.replicate 32 0
/-- The key behind 64. -/
def keyN : List UInt8 := (nextK (keyL 64)).1
theorem next_64 : (nextK (keyL 64)).2 = true ∧ keyN.length = 32 := by decide +kernel
theorem rank_0 : tree3.rank key0 = 0 := by unfold Tr.rank; rw [tree3_ents]; decide +kernel
theorem some_0 : (tree3.from key0).take (2 : Int).toNat = [(keyL 0, [97]), (keyL 64, [98])] := by unfold Tr.from; rw [tree3_ents]; decide +kernel
theorem some_n : (tree3.from keyN).take (256 : Int).toNat = [(keyL 128, [99])] := by unfold Tr.from; rw [tree3_ents]; decide +kernel
theorem from_128 : tree3.from (keyL 128) = [(keyL 128, [99])] := by unfold Tr.from; rw [tree3_ents]; decide +kernel
theorem btw_2 : tree3.between key0 (keyL 64) = 2 := by unfold Tr.between Tr.upTo Tr.rank; rw [tree3_leaves, tree3_ents]; decide +kernel
theorem btw_0 : tree3.between (keyL 64) key0 = 0 := by unfold Tr.between Tr.upTo Tr.rank; rw [tree3_leaves, tree3_ents]; decide +kernel
section
variable {w0 w : World} {s : Nat} {root : Int}
set_option maxRecDepth 100000 in
theorem Has3.nth_bad (h : Has3 w0 w s root) (n : Int) (hn : n < 0 ∨ 3 ≤ n) : Calls Try.prog 11 #[.pointer (some ⟨s, 0, none⟩), .int .i64 root, .int .i64 n] w fun e w' => e = .returned (.tuple #[.agg zPair, .int .i64 (if n < 0 then 2 else 7)]) ∧ Adds w w' := by
  obtain ⟨σ, G, R, E, O⟩ := h.st
  obtain ⟨F, hF⟩ := O.at
  exact Nth_bad hF G R E n (hn.imp id (fun h => by rw [tree3_leaves]; exact h))
set_option maxRecDepth 100000 in
theorem Has3.rank0 (h : Has3 w0 w s root) : Calls Try.prog 10 #[.pointer (some ⟨s, 0, none⟩), .int .i64 root, .agg (brow key0)] w fun e w' => e = .returned (.tuple #[.int .i64 0, .int .i64 0]) ∧ Adds w w' := by
  obtain ⟨σ, G, R, E, O⟩ := h.st
  obtain ⟨F, hF⟩ := O.at
  have := Rank_ok hF G R E key0 rfl
  rw [rank_0] at this
  exact this
set_option maxRecDepth 100000 in
theorem Has3.someOk (h : Has3 w0 w s root) (key : List UInt8) (hk : key.length = 32) (most : Int) (hm : 0 ≤ most ∧ most ≤ 256) {L : Ents} (hL : (tree3.from key).take most.toNat = L) : Calls Try.prog 13 #[.pointer (some ⟨s, 0, none⟩), .int .i64 root, .agg (brow key), .int .i64 most] w fun e w' => ∃ ao cap out, e = .returned (.tuple #[.slice ao (List.length out) cap, .int .i64 0]) ∧ PairsAt w' ao out ∧ out.map Pr.ent = L ∧ Adds w w' := by
  obtain ⟨σ, G, R, E, O⟩ := h.st
  obtain ⟨F, hF⟩ := O.at
  refine (Some_ok hF G R E key hk most hm).mono ?_
  rintro e w' ⟨v, out, rfl, ht, he, a⟩
  obtain ⟨ao, cap, rfl, hp⟩ := RowP.pairs ht.row ht.good
  exact ⟨ao, cap, out, rfl, hp, he.trans hL, a⟩
set_option maxRecDepth 100000 in
theorem Has3.someArg (h : Has3 w0 w s root) (K : Array Value) (most : Int) (hm : most < 0 ∨ 256 < most) : Calls Try.prog 13 #[.pointer (some ⟨s, 0, none⟩), .int .i64 root, .agg K, .int .i64 most] w fun e w' => e = .returned (.tuple #[.slice none 0 0, .int .i64 2]) ∧ Adds w w' := by
  obtain ⟨σ, G, R, E, O⟩ := h.st
  obtain ⟨F, hF⟩ := O.at
  exact Some_arg hF E K most hm
set_option maxRecDepth 100000 in
theorem Has3.btw (h : Has3 w0 w s root) (a b : List UInt8) (ha : a.length = 32) (hb : b.length = 32) {n : Int} (hn : tree3.between a b = n) : Calls Try.prog 12 #[.pointer (some ⟨s, 0, none⟩), .int .i64 root, .agg (brow a), .agg (brow b)] w fun e w' => e = .returned (.tuple #[.int .i64 n, .int .i64 0]) ∧ Adds w w' := by
  obtain ⟨σ, G, R, E, O⟩ := h.st
  obtain ⟨F, hF⟩ := O.at
  subst hn
  exact Between_ok hF G R E a b ha hb
set_option maxRecDepth 100000 in
theorem Has3.fromOk (h : Has3 w0 w s root) (key : List UInt8) (hk : key.length = 32) {L : Ents} (hL : tree3.from key = L) : Calls Try.prog 16 #[.pointer (some ⟨s, 0, none⟩), .int .i64 root, .agg (brow key)] w fun e w' => ∃ q, e = .returned q ∧ SeqIs w.heap.size w' L q ∧ Adds w w' := by
  obtain ⟨σ, G, R, E, O⟩ := h.st
  obtain ⟨F, hF⟩ := O.at
  subst hL
  exact From_ok hF G R E key hk
end
end Go.Proofs.Ytfllneenonhonaa.Law13

/- Layer 9's statements: the entries that writes lead to; a number counted round. -/
import Derived.Test.YtmeglndnkdgkoaaGreatRows9
import Derived.Test.YtmeglndnkdgkoaaGreatPlanK
import Derived.Deep.LoopGhost
namespace Go.Proofs.YtmeglndnkdgkoaaGreat.Law9
open Go Go.RowKit Go.Proofs.YtmeglndnkdgkoaaGreat Go.Proofs.YtmeglndnkdgkoaaGreat.ShaW Go.Proofs.YtmeglndnkdgkoaaGreat.Path Go.Proofs.YtmeglndnkdgkoaaGreat.Store
set_option maxHeartbeats 3200000
set_option linter.unusedVariables false

/-- Pick. -/
def pick (x : Int) (n : Nat) : Int := if Int.tmod x n < 0 then Int.tmod x n + n else Int.tmod x n
theorem pick_in (x : Int) {n : Nat} (hn : 0 < n) : 0 ≤ pick x n ∧ pick x n < n := by
  have h1 := Int.lt_tmod_of_pos x (show (0 : Int) < n by omega)
  have h2 := Int.tmod_lt_of_pos x (show (0 : Int) < n by omega)
  unfold pick
  split <;> omega
theorem Pick_ok (x : Int) (hx : (Lit.int .i64 x).wf = true) (n : Nat) (hn : 0 < n) (hn2 : n ≤ 1000000) (w : World) : Calls Tryz.prog 57 #[.int .i64 x, .int .i64 n] w fun e w' => e = .returned (.int .i64 (pick x n)) ∧ w = w' := by
  have h1 := Int.lt_tmod_of_pos x (show (0 : Int) < n by omega)
  have h2 := Int.tmod_lt_of_pos x (show (0 : Int) < n by omega)
  have hw0 : IntKind.i64.wrap (Int.tmod x n) = Int.tmod x n := IntWalk.i64_in _ (by omega)
  have hw : IntKind.i64.wrap (Int.tmod x n + n) = Int.tmod x n + n := IntWalk.i64_in _ (by omega)
  have hz : ((n : Int) == 0) = false := by simpa using (show ¬ (n : Int) = 0 by omega)
  unfold pick
  obtain ⟨m, hm⟩ : ∃ m, m = Int.tmod x n := ⟨_, rfl⟩
  by_cases h0 : Int.tmod x n < 0
  · rw [if_pos h0]
    go_enter Tryz.func57, Tryz.ntmps57
    go_wp2
    go_ret
    exact ⟨rfl, rfl⟩
  · rw [if_neg h0]
    have hx0 : decide (Int.tmod x n < 0) = false := decide_eq_false h0
    go_enter Tryz.func57, Tryz.ntmps57
    go_wp2
    go_ret
    exact ⟨rfl, rfl⟩
/-- What has been found of a key among the first j. -/
def AtOk (out : List Pr) (key : List UInt8) (j : Nat) (x : Int) : Prop := (x = -1 ∧ ∀ i q, i < j → out[i]? = some q → q.key ≠ key) ∨ ∃ (i : Nat) (q : Pr), i < j ∧ x = (i : Int) ∧ out[i]? = some q ∧ q.key = key
theorem pair_parts {cur : Array Value} {o : Nat} {x : Pr} (hk : x.key.length = 32) (h : cur.extract o (o + 33) = x.cells) : cur.extract o (o + 32) = brow x.key ∧ cur[o + 32]? = some x.vv := by
  have hs := Pr.size hk
  have h' : cur.extract o (o + x.cells.size) = x.cells := by rw [hs]; exact h
  exact ⟨extract_part h' (by rw [hs]; omega) (Pr.at_key hk), extract_get h' (Pr.at_val hk)⟩
theorem sizePr : (Tryz.prog.info? 159).map (·.size) = some 33 := by kernel_rfl
theorem pair_info : ∃ i z, Tryz.prog.info? 159 = some i ∧ i.zero = some z ∧ i.size = 33 ∧ i.bytes = 56 ∧ z.cells.size = 33 := by
  obtain ⟨i, h1, h2, h3, h4⟩ := info_parts (P := Tryz.prog) (e := 159) (z := .agg (List.replicate 32 (Value.int .u8 0) ++ [Value.slice none 0 0]).toArray) (size := 33) (bytes := 56) (by kernel_rfl)
  exact ⟨i, _, h1, h2, h3, h4, rfl⟩
theorem AtOk.step {out : List Pr} {key : List UInt8} {j : Nat} {y : Int} {q : Pr} (h : AtOk out key j y) (hq : out[j]? = some q) : AtOk out key (j + 1) (if q.key = key then (j : Int) else y) := by
  by_cases e : q.key = key
  · rw [if_pos e]
    exact .inr ⟨j, q, Nat.lt_succ_self _, rfl, hq, e⟩
  · rw [if_neg e]
    rcases h with ⟨h1, h2⟩ | ⟨i, q', h1, h2, h3, h4⟩
    · refine .inl ⟨h1, fun i q' hi hq' => ?_⟩
      by_cases e2 : i = j
      · subst e2
        rw [hq] at hq'
        cases hq'
        exact e
      · exact h2 i q' (by omega) hq'
    · exact .inr ⟨i, q', by omega, h2, h3, h4⟩
end Go.Proofs.YtmeglndnkdgkoaaGreat.Law9

/- Layer 9's statements: which writes are gone through. -/
import Derived.Test.YtmeglndnkdgkoaaGreatAwake9
import Derived.Test.YtmeglndnkdgkoaaGreatPutI
import Derived.Deep.LoopGhost
namespace Go.Proofs.YtmeglndnkdgkoaaGreat.Law9
open Go Go.RowKit Go.Proofs.YtmeglndnkdgkoaaGreat Go.Proofs.YtmeglndnkdgkoaaGreat.ShaW Go.Proofs.YtmeglndnkdgkoaaGreat.Path Go.Proofs.YtmeglndnkdgkoaaGreat.Store
set_option maxHeartbeats 1600000
set_option linter.unusedVariables false

theorem PartAt.cellAt {w : World} {g o : Nat} {cs : Array Value} {i : Nat} {v : Value} (h : PartAt w g o cs) (hi : cs[i]? = some v) : w.cell? ⟨g, o + i, none⟩ = some v := by
  obtain ⟨cur, t, fr, h1, h2, h3⟩ := h
  refine row_cell h1 ?_
  rw [← h3] at hi
  have hlt := (Array.getElem?_eq_some_iff.1 hi).1
  rw [Array.getElem?_extract] at hi
  simp at hi
  exact hi.2
theorem extract_get {cur cs : Array Value} {o i : Nat} {v : Value} (h3 : cur.extract o (o + cs.size) = cs) (hi : cs[i]? = some v) : cur[o + i]? = some v := by
  rw [← h3, Array.getElem?_extract] at hi
  simp at hi
  exact hi.2
theorem extract_part {cur cs K : Array Value} {o n : Nat} (h3 : cur.extract o (o + cs.size) = cs) (hn : n ≤ cs.size) (hk : cs.extract 0 (0 + n) = K) : cur.extract o (o + n) = K := by
  rw [← hk, ← h3, Array.extract_extract]
  congr 1
  omega
/-- A store, its root, the entries behind it, in a law. -/
structure St9 (w0 w : World) (s : Nat) (σ : SlabSt Nd) (root : Int) (L : Ents) (n : Nat) (b : Nat) : Prop where
  own : Ow w0 w s σ (fun _ => False)
  db : Db σ root L
  room : σ.room = n
  total : total σ ≤ b
theorem St9.adds {w0 w w' : World} {s n b : Nat} {σ : SlabSt Nd} {root : Int} {L : Ents} (h : St9 w0 w s σ root L n b) (a : Adds w w') : St9 w0 w' s σ root L n b := ⟨h.own.adds a, h.db, h.room, h.total⟩
theorem St9.world {w0 w : World} {s n b : Nat} {σ : SlabSt Nd} {root : Int} {L : Ents} (h : St9 w0 w s σ root L n b) : Adds w0 w := h.own.world
theorem St9.used {w0 w : World} {s n b : Nat} {σ : SlabSt Nd} {root : Int} {L : Ents} (h : St9 w0 w s σ root L n b) : σ.used ≤ n := by rw [← h.room]; exact h.db.good.room
def largeB (l : List Pr) : Bool := decide (16 < l.length) || l.any (fun x => decide (1024 < x.val.length))
theorem largeB_no {l : List Pr} (h : largeB l = false) : l.length ≤ 16 ∧ ∀ x ∈ l, x.val.length ≤ 1024 := by
  unfold largeB at h
  simp at h
  exact h
end Go.Proofs.YtmeglndnkdgkoaaGreat.Law9

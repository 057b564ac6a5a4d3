/- Plain lemmas on worlds: which blocks a piece of a run may have changed ('Ch'), and what is known of whole blocks. -/
import Derived.WalkKit
import Derived.Lib.Hide
namespace Go.Proofs.Ytdgdpbmaalcedaa
open Go Go.RowKit

/-- 'w2' is 'w1' but for the blocks of 'F' and for new blocks. -/
structure Ch (F : Nat → Prop) (w w' : World) : Prop where
  os : w'.os = w.os
  tape : w'.tape = w.tape
  output : w'.output = w.output
  size : w.heap.size ≤ w'.heap.size
  block : ∀ k, k < w.heap.size → ¬ F k → w'.heap[k]? = w.heap[k]?

namespace Ch
theorem refl (F : Nat → Prop) (w : World) : Ch F w w := ⟨rfl, rfl, rfl, Nat.le_refl _, fun _ _ _ => rfl⟩
theorem mono {F G : Nat → Prop} {w w' : World} (h : Ch F w w') (hs : ∀ k, k < w.heap.size → F k → G k) : Ch G w w' :=
  ⟨h.os, h.tape, h.output, h.size, fun k hk hn => h.block k hk (fun hf => hn (hs k hk hf))⟩
theorem trans {F G : Nat → Prop} {a b c : World} (h : Ch F a b) (k : Ch G b c) (hs : ∀ i, G i → F i ∨ a.heap.size ≤ i) : Ch F a c :=
  ⟨k.os.trans h.os, k.tape.trans h.tape, k.output.trans h.output, Nat.le_trans h.size k.size, fun i hi hn =>
    (k.block i (Nat.lt_of_lt_of_le hi h.size) (fun hg => (hs i hg).elim hn (fun h' => by omega))).trans (h.block i hi hn)⟩
theorem trans_same {F : Nat → Prop} {a b c : World} (h : Ch F a b) (k : Ch F b c) : Ch F a c := h.trans k (fun _ hi => .inl hi)
theorem alloc {F : Nat → Prop} {a w : World} (h : Ch F a w) (o : Obj) : Ch F a (w.alloc o) :=
  h.trans (G := fun _ => False) ⟨rfl, rfl, rfl, by simp, fun k hk _ => heap_alloc_old w o hk⟩ (fun _ hf => hf.elim)
theorem drew {F : Nat → Prop} {a w : World} (h : Ch F a w) : Ch F a w.drew :=
  h.trans (G := fun _ => False) ⟨rfl, rfl, rfl, by simp, fun _ _ _ => rfl⟩ (fun _ hf => hf.elim)
theorem setCell {F : Nat → Prop} {a w : World} (h : Ch F a w) {p : Addr} (hp : F p.block ∨ a.heap.size ≤ p.block) (u : Value) : Ch F a (w.setCell p u) :=
  h.trans (G := fun k => k = p.block) ⟨rfl, rfl, rfl, by simp, fun k _ hk => heap_setCell_other w p k u hk⟩ (fun _ hf => hf ▸ hp)
theorem grown {F : Nat → Prop} {a w w' : World} {row : Option Nat} (h : Ch F a w) (hg : w.grownBy w' row) (hr : ∀ k, row = some k → F k ∨ a.heap.size ≤ k) : Ch F a w' :=
  h.trans (G := fun k => row = some k) ⟨hg.os, hg.tape, hg.output, hg.size, fun k hk hne => hg.block k hk (fun e => hne e.symm)⟩ (fun k hf => hr k hf)
theorem setRow {F : Nat → Prop} {a w : World} (h : Ch F a w) {g : Nat} (hp : F g ∨ a.heap.size ≤ g) (cs : Array Value) : Ch F a (w.setRow g cs) :=
  h.trans (G := fun k => k = g) ⟨rfl, rfl, rfl, by simp, fun k _ hk => setRow_other w g k cs hk⟩ (fun _ hf => hf ▸ hp)
theorem below {F : Nat → Prop} {w w' : World} {B : Nat} (h : Ch F w w') (hB : B ≤ w.heap.size) (hF : ∀ k, F k → B ≤ k) : Below B w w' :=
  ⟨h.os, h.tape, h.output, h.size, fun k hk => h.block k (by omega) (fun hf => by have := hF k hf; omega)⟩
theorem of_below {w w' : World} {B : Nat} (h : Below B w w') : Ch (fun k => B ≤ k) w w' :=
  ⟨h.os, h.tape, h.output, h.size, fun k _ hn => h.block k (by omega)⟩
theorem row {F : Nat → Prop} {w w' : World} (h : Ch F w w') {g : Nat} {o : Obj} (hg : w.heap[g]? = some o) (hn : ¬ F g) : w'.heap[g]? = some o :=
  (h.block g (Array.getElem?_eq_some_iff.1 hg).1 hn).trans hg
theorem owns {F : Nat → Prop} {w w' : World} (h : Ch F w w') {base n sz : Nat} {e : TypeId} {v : Value} {xs : List Value}
    (ho : w.ownsRow base e sz v n xs) (hn : ∀ k, v.ownBlock = some k → ¬ F k) : w'.ownsRow base e sz v n xs := by
  refine ⟨ho.1, ?_⟩
  rcases ho.2 with hh | ⟨g, cap, cur, rfl, hb, hgg, rest⟩
  · exact .inl hh
  · exact .inr ⟨g, cap, cur, rfl, hb, h.row hgg (hn g (by simp [Value.ownBlock])), rest⟩
end Ch

end Go.Proofs.Ytdgdpbmaalcedaa

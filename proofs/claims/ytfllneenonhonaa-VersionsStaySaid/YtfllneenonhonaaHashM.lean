/- A map from names to digests in memory, as a list of entries. -/
import Derived.Test.YtfllneenonhonaaNameM
namespace Go.Proofs.Ytfllneenonhonaa.Store
open Go Go.RowKit Go.Proofs.Ytfllneenonhonaa Go.Proofs.Ytfllneenonhonaa.ShaW Go.Proofs.Ytfllneenonhonaa.Path
open Go.Maps (Keyed)
set_option maxHeartbeats 1600000
set_option linter.unusedVariables false

/-- Names with digests. -/
abbrev Hms := List (List UInt8 × List UInt8)
def Hms.names (κ : Hms) : List (List UInt8) := κ.map Prod.fst
def Hms.get (κ : Hms) (x : List UInt8) : List UInt8 := ((κ.find? (fun p => decide (p.1 = x))).map Prod.snd).getD (List.replicate 32 0)
theorem Hms.get_same {κ : Hms} {x d : List UInt8} : Hms.get ((x, d) :: κ) x = d := by simp [Hms.get]
theorem Hms.get_other {κ : Hms} {x z d : List UInt8} (h : z ≠ x) : Hms.get ((x, d) :: κ) z = Hms.get κ z := by
  unfold Hms.get
  rw [List.find?_cons_of_neg (by simp [Ne.symm h])]
theorem Hms.get_mem {κ : Hms} (hn : κ.names.Nodup) {p : List UInt8 × List UInt8} (hp : p ∈ κ) : κ.get p.1 = p.2 := by
  induction κ with
  | nil => cases hp
  | cons q κ ih =>
    rcases List.mem_cons.1 hp with rfl | h
    · exact Hms.get_same
    · obtain ⟨h1, h2⟩ := List.nodup_cons.1 (show (q.1 :: Hms.names κ).Nodup from hn)
      have hne : p.1 ≠ q.1 := fun e => h1 (e ▸ List.mem_map.2 ⟨p, h, rfl⟩)
      rw [← ih h2 h]
      exact Hms.get_other (x := q.1) (d := q.2) hne
def selfH (v : Value) : Option (DataW Value × List MemPlace) := some (.held v, [])
def hashV (d : List UInt8) : Value := .agg (brow d)
theorem zeroOfHash (w : World) : (zeroValue 66).run Try.prog w = .ok (hashV (List.replicate 32 0)) w := by kernel_rfl
theorem hashMap : Try.prog.underlying 83 = some (.map 9 66) := by kernel_rfl
/-- A block holds just these. -/
structure HashAt (w : World) (b n : Nat) (κ : Hms) : Prop where
  ex : ∃ D, w.ownsMap Try.prog 9 selfH b n D ∧ Maps.size D = κ.length ∧ ∀ x : List UInt8, Maps.has D (.string x) = decide (x ∈ κ.names) ∧ D.atKey (.string x) (.held (hashV (List.replicate 32 0))) = .held (hashV (κ.get x))
  nd : κ.names.Nodup
section
variable {w w' : World} {b n : Nat} {κ : Hms}
theorem HashAt.keep {F : Nat → Prop} (h : HashAt w b n κ) (hc : Ch F w w') (hb : ¬ F b) : HashAt w' b n κ := by
  obtain ⟨⟨D, ⟨es, clock, hg, r⟩, h2⟩, h3⟩ := h
  exact ⟨⟨D, ⟨es, clock, hc.row hg hb, r⟩, h2⟩, h3⟩
theorem HashAt.lt (h : HashAt w b n κ) : b < w.heap.size := by
  obtain ⟨⟨D, h1, h2⟩, h3⟩ := h
  exact h1.lt
theorem HashAt.made (w : World) : HashAt (w.alloc (.map #[] 0)) w.heap.size 0 [] :=
  ⟨⟨_, World.ownsMap_made w _ _ _, rfl, fun x => ⟨rfl, by simp [DataW.atKey, Hms.get]⟩⟩, List.nodup_nil⟩
theorem HashAt.look (h : HashAt w b n κ) {x : List UInt8} (hx : x.length ≤ maxLen) :
    (Instr.lookup 83 (.map (some b)) (.string (bstr x)) true).run Try.prog w = .ok (.tuple #[hashV (κ.get x), .bool (decide (x ∈ κ.names))]) w := by
  obtain ⟨⟨D, h1, _, h2⟩, _⟩ := h
  obtain ⟨v, ps, hr, hv⟩ := h1.look_ok lawS hashMap (zeroOfHash w) (zd := .held (hashV (List.replicate 32 0))) (zp := []) rfl (strLit_key x hx)
  rw [(h2 x).2] at hv
  simp only [selfH, Option.some.injEq, Prod.mk.injEq, DataW.held.injEq] at hv
  rw [hr, hv.1, (h2 x).1]
theorem HashAt.look1 (h : HashAt w b n κ) {x : List UInt8} (hx : x.length ≤ maxLen) :
    (Instr.lookup 83 (.map (some b)) (.string (bstr x)) false).run Try.prog w = .ok (hashV (κ.get x)) w := by
  obtain ⟨⟨D, h1, _, h2⟩, _⟩ := h
  obtain ⟨v, ps, hr, hv⟩ := h1.lookup lawS hashMap (zeroOfHash w) (zd := .held (hashV (List.replicate 32 0))) (zp := []) rfl (strLit_key x hx)
  rw [(h2 x).2] at hv
  simp only [selfH, Option.some.injEq, Prod.mk.injEq, DataW.held.injEq] at hv
  rw [hr, hv.1]
theorem HashAt.count (h : HashAt w b n κ) (ty : TypeId) : (Builtin.len_ #[83] ty #[.map (some b)]).run Try.prog w = .ok (.int .i64 (κ.length : Nat)) w := by
  obtain ⟨⟨D, h1, hs, h2⟩, _⟩ := h
  rw [h1.len hashMap ty, hs]
theorem HashAt.put (h : HashAt w b n κ) (hn : n < maxLen) {x : List UInt8} (hx : x.length ≤ maxLen) (hf : x ∉ κ.names) (d : List UInt8) :
    ∃ w', (Instr.mapUpdate 83 (.map (some b)) (.string (bstr x)) (hashV d)).run Try.prog w = .ok () w' ∧ HashAt w' b (n + 1) ((x, d) :: κ) ∧ Ch (fun k => k = b) w w' := by
  obtain ⟨⟨D, h1, hs, h2⟩, h3⟩ := h
  obtain ⟨w', hr, ho, ht⟩ := h1.store lawS hashMap hn (strLit_key x hx) (val := hashV d) (d := .held (hashV d)) (ps := []) rfl
  refine ⟨w', hr, ⟨⟨_, ho, ?_, fun z => ?_⟩, List.nodup_cons.2 ⟨hf, h3⟩⟩, turned_ch ht⟩
  · rw [Maps.size_put (h1.tidy lawS), (h2 x).1, hs, if_neg (by simpa using hf)]
    rfl
  · by_cases e : z = x
    · subst e
      refine ⟨?_, ?_⟩
      · rw [Maps.has_put_same h1.isMap (strLit_is hx)]
        exact (decide_eq_true (show z ∈ z :: Hms.names κ from List.mem_cons_self ..)).symm
      · rw [Maps.atKey_put_same h1.isMap (strLit_is hx), Hms.get_same]
    · have hne : (Lit.string z) ≠ .string x := fun h => e (by injection h)
      refine ⟨?_, ?_⟩
      · rw [Maps.has_put_other hne, (h2 z).1]
        refine decide_eq_decide.2 ?_
        show _ ↔ z ∈ x :: Hms.names κ
        rw [List.mem_cons]
        exact ⟨.inr, fun h => h.resolve_left e⟩
      · rw [Maps.atKey_put_other hne, (h2 z).2, Hms.get_other e]
end
end Go.Proofs.Ytfllneenonhonaa.Store

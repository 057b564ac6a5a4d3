/- A map from names to handles in memory, as a list of entries. -/
import Derived.Maps.OwnOps
import Derived.Maps.OwnSet
import Derived.Maps.RangeWalk
import Derived.Sort.KeysCollected
import Derived.StringKeys
import Derived.Maps.Keyed
import Derived.Test.YtfllneenonhonaaPutW1
namespace Go.Proofs.Ytfllneenonhonaa.Store
open Go Go.RowKit Go.Proofs.Ytfllneenonhonaa Go.Proofs.Ytfllneenonhonaa.ShaW Go.Proofs.Ytfllneenonhonaa.Path
open Go.Maps (Keyed)
set_option maxHeartbeats 1600000
set_option linter.unusedVariables false

/-- Names with what they stand for. -/
abbrev Nms := List (List UInt8 × Int)
def Nms.names (ν : Nms) : List (List UInt8) := ν.map Prod.fst
def Nms.get (ν : Nms) (x : List UInt8) : Int := ((ν.find? (fun p => decide (p.1 = x))).map Prod.snd).getD 0
def Nms.cut (ν : Nms) (x : List UInt8) : Nms := ν.filter (fun p => !decide (p.1 = x))
def Nms.set (ν : Nms) (x : List UInt8) (c : Int) : Nms := (x, c) :: ν.cut x
theorem Nms.mem_cut {ν : Nms} {x : List UInt8} {p : List UInt8 × Int} : p ∈ ν.cut x ↔ p ∈ ν ∧ p.1 ≠ x := by simp [Nms.cut]
theorem Nms.names_cut {ν : Nms} {x z : List UInt8} : z ∈ (ν.cut x).names ↔ z ∈ ν.names ∧ z ≠ x := by
  simp only [Nms.names, List.mem_map, Nms.mem_cut]
  constructor
  · rintro ⟨p, ⟨h1, h2⟩, rfl⟩; exact ⟨⟨p, h1, rfl⟩, h2⟩
  · rintro ⟨⟨p, h1, rfl⟩, h2⟩; exact ⟨p, ⟨h1, h2⟩, rfl⟩
theorem Nms.nodup_cut {ν : Nms} (h : ν.names.Nodup) (x : List UInt8) : (ν.cut x).names.Nodup := by
  unfold Nms.names Nms.cut at *
  exact h.sublist (List.filter_sublist.map _)
theorem Nms.nodup_set {ν : Nms} (h : ν.names.Nodup) (x : List UInt8) (c : Int) : (ν.set x c).names.Nodup := by
  show (x :: (ν.cut x).names).Nodup
  exact List.nodup_cons.2 ⟨fun hm => (Nms.names_cut.1 hm).2 rfl, Nms.nodup_cut h x⟩
theorem Nms.cut_none {ν : Nms} {x : List UInt8} (h : x ∉ ν.names) : ν.cut x = ν := by
  unfold Nms.cut
  refine List.filter_eq_self.2 (fun p hp => ?_)
  have : p.1 ≠ x := fun e => h (List.mem_map.2 ⟨p, hp, e⟩)
  simp [this]
theorem Nms.get_same {ν : Nms} {x : List UInt8} {c : Int} : (ν.set x c).get x = c := by simp [Nms.get, Nms.set]
theorem Nms.get_cut {ν : Nms} {x z : List UInt8} (h : z ≠ x) : (ν.cut x).get z = ν.get z := by
  unfold Nms.get Nms.cut
  congr 2
  rw [List.find?_filter]
  congr 1
  funext p
  by_cases e : p.1 = z
  · simp [e, h]
  · simp [e]
theorem Nms.get_set {ν : Nms} {x z : List UInt8} {c : Int} (h : z ≠ x) : (ν.set x c).get z = ν.get z := by
  have : (ν.set x c).get z = (ν.cut x).get z := by
    unfold Nms.get Nms.set
    rw [List.find?_cons_of_neg (by simp [Ne.symm h])]
  rw [this, Nms.get_cut h]
theorem Nms.get_none {ν : Nms} {x : List UInt8} (h : x ∉ ν.names) : ν.get x = 0 := by
  unfold Nms.get
  rw [List.find?_eq_none.2 (fun p hp => by have : p.1 ≠ x := fun e => h (List.mem_map.2 ⟨p, hp, e⟩); simp [this])]
  rfl
theorem Nms.get_cut_same {ν : Nms} {x : List UInt8} : (ν.cut x).get x = 0 := Nms.get_none (fun h => (Nms.names_cut.1 h).2 rfl)
theorem Nms.get_mem {ν : Nms} (hn : ν.names.Nodup) {p : List UInt8 × Int} (hp : p ∈ ν) : ν.get p.1 = p.2 := by
  induction ν with
  | nil => cases hp
  | cons q ν ih =>
    rcases List.mem_cons.1 hp with rfl | h
    · simp [Nms.get]
    · obtain ⟨h1, h2⟩ := List.nodup_cons.1 (show (q.1 :: Nms.names ν).Nodup from hn)
      have hne : q.1 ≠ p.1 := fun e => h1 (e ▸ List.mem_map.2 ⟨p, h, rfl⟩)
      rw [← ih h2 h]
      unfold Nms.get
      rw [List.find?_cons_of_neg (by simp [hne])]
theorem Nms.mem_get : ∀ {ν : Nms} {x : List UInt8}, x ∈ ν.names → (x, ν.get x) ∈ ν
  | [], x, h => by cases h
  | q :: ν, x, h => by
    by_cases e : q.1 = x
    · have : Nms.get (q :: ν) x = q.2 := by simp [Nms.get, e]
      rw [this, ← e]
      exact List.mem_cons_self
    · have h2 : x ∈ Nms.names ν := (List.mem_cons.1 (show x ∈ q.1 :: Nms.names ν from h)).resolve_left (fun h => e h.symm)
      have : Nms.get (q :: ν) x = Nms.get ν x := by
        unfold Nms.get
        rw [List.find?_cons_of_neg (by simp [e])]
      rw [this]
      exact List.mem_cons_of_mem _ (Nms.mem_get h2)
theorem Nms.length_cut {ν : Nms} (hn : ν.names.Nodup) (x : List UInt8) : (ν.cut x).length + (if x ∈ ν.names then 1 else 0) = ν.length := by
  induction ν with
  | nil => rfl
  | cons q ν ih =>
    obtain ⟨h1, h2⟩ := List.nodup_cons.1 (show (q.1 :: Nms.names ν).Nodup from hn)
    have ih := ih h2
    by_cases e : q.1 = x
    · subst e
      have hc : Nms.cut (q :: ν) q.1 = Nms.cut ν q.1 := by simp [Nms.cut]
      have hm : q.1 ∈ Nms.names (q :: ν) := List.mem_cons_self
      rw [hc, if_pos hm, Nms.cut_none h1, List.length_cons]
    · have hc : Nms.cut (q :: ν) x = q :: Nms.cut ν x := by simp [Nms.cut, e]
      have hm : x ∈ Nms.names (q :: ν) ↔ x ∈ Nms.names ν := by
        show x ∈ q.1 :: Nms.names ν ↔ _
        rw [List.mem_cons]
        exact ⟨fun h => h.resolve_left (fun h => e h.symm), .inr⟩
      rw [hc, List.length_cons, List.length_cons]
      by_cases hx : x ∈ Nms.names ν
      · rw [if_pos (hm.2 hx)]
        rw [if_pos hx] at ih
        omega
      · rw [if_neg (fun h => hx (hm.1 h))]
        rw [if_neg hx] at ih
        omega

noncomputable abbrev elemN : Value → Option (DataW Value × List MemPlace) := plainElem Try.prog 3
theorem lawS : Keyed Try.prog 9 := Go.Maps.string_keyed Try.underlying9
theorem zeroOfInt' (w : World) : (zeroValue 3).run Try.prog w = .ok (.int .i64 0) w := by kernel_rfl
def numN (x : Int) : DataW Value := .lit (.int .i64 x)
theorem strLit_key (x : List UInt8) (hx : x.length ≤ maxLen) : keyOf Try.prog 9 (.string (bstr x)) = some (.string x) := by
  have := Go.WideMaps.keyOf_string_mk (P := Try.prog) (k := 9) Try.underlying9 (s := bstr x) (by show x.toArray.size ≤ _; simpa using hx)
  simpa [bstr] using this
theorem strLit_is {x : List UInt8} (hx : x.length ≤ maxLen) : WideAt.IsKeyLit (.string x) := lawS.key (strLit_key x hx)
/-- A block holds just these names. -/
structure NamesAt (w : World) (b n : Nat) (ν : Nms) : Prop where
  ex : ∃ D, w.ownsMap Try.prog 9 elemN b n D ∧ Maps.size D = ν.length ∧ ∀ x : List UInt8, Maps.has D (.string x) = decide (x ∈ ν.names) ∧ D.atKey (.string x) (numN 0) = numN (ν.get x)
  nd : ν.names.Nodup
  len : ∀ x ∈ ν.names, x.length ≤ maxLen
section
variable {w w' : World} {b n : Nat} {ν : Nms}
theorem NamesAt.keep {F : Nat → Prop} (h : NamesAt w b n ν) (hc : Ch F w w') (hb : ¬ F b) : NamesAt w' b n ν := by
  obtain ⟨⟨D, ⟨es, clock, hg, r⟩, h2⟩, h3, h4⟩ := h
  exact ⟨⟨D, ⟨es, clock, hc.row hg hb, r⟩, h2⟩, h3, h4⟩
theorem NamesAt.kept {r : Option Nat} (h : NamesAt w b n ν) (hg : w.grownBy w' r) (hb : some b ≠ r) : NamesAt w' b n ν := by
  obtain ⟨⟨D, h1, h2⟩, h3, h4⟩ := h
  exact ⟨⟨D, h1.kept hg hb, h2⟩, h3, h4⟩
theorem NamesAt.lt (h : NamesAt w b n ν) : b < w.heap.size := by
  obtain ⟨⟨D, h1, h2⟩, h3, h4⟩ := h
  exact h1.lt
theorem NamesAt.made (w : World) : NamesAt (w.alloc (.map #[] 0)) w.heap.size 0 [] :=
  ⟨⟨_, World.ownsMap_made w _ _ _, rfl, fun x => ⟨rfl, by simp [DataW.atKey, Nms.get]⟩⟩, List.nodup_nil, fun x hx => by cases hx⟩
theorem NamesAt.look (h : NamesAt w b n ν) {x : List UInt8} (hx : x.length ≤ maxLen) :
    (Instr.lookup 122 (.map (some b)) (.string (bstr x)) true).run Try.prog w = .ok (.tuple #[.int .i64 (ν.get x), .bool (decide (x ∈ ν.names))]) w := by
  obtain ⟨⟨D, h1, _, h2⟩, _⟩ := h
  obtain ⟨v, ps, hr, hv⟩ := h1.look_ok lawS Try.underlying122 (zeroOfInt' w) (plainElem_int Try.underlying3 (by decide)) (strLit_key x hx)
  obtain ⟨c, rfl, hc, _⟩ := plainElem_int_inv Try.underlying3 hv
  have e := (h2 x).2
  simp only [Prod.mk.injEq] at hc
  rw [show numN 0 = .lit (.int .i64 0) from rfl, hc.1] at e
  simp only [numN, DataW.lit.injEq, Lit.int.injEq, true_and] at e
  rw [hr, e, (h2 x).1]
theorem NamesAt.look1 (h : NamesAt w b n ν) {x : List UInt8} (hx : x.length ≤ maxLen) :
    (Instr.lookup 122 (.map (some b)) (.string (bstr x)) false).run Try.prog w = .ok (.int .i64 (ν.get x)) w := by
  obtain ⟨⟨D, h1, _, h2⟩, _⟩ := h
  obtain ⟨c, hr, hc, _⟩ := h1.lookup_int lawS Try.underlying122 Try.underlying3 (zeroOfInt' w) (strLit_key x hx)
  have e := (h2 x).2
  rw [show numN 0 = .lit (.int .i64 0) from rfl, hc] at e
  simp only [numN, DataW.lit.injEq, Lit.int.injEq, true_and] at e
  rw [hr, e]
theorem NamesAt.count (h : NamesAt w b n ν) (ty : TypeId) : (Builtin.len_ #[122] ty #[.map (some b)]).run Try.prog w = .ok (.int .i64 (ν.length : Nat)) w := by
  obtain ⟨⟨D, h1, hs, h2⟩, _⟩ := h
  rw [h1.len Try.underlying122 ty, hs]
theorem turned_ch {b : Nat} (h : w.mapTurned w' b) : Ch (fun k => k = b) w w' := (Ch.refl _ w).grown h.grown (fun k hk => .inl (by cases hk; rfl))
theorem NamesAt.put (h : NamesAt w b n ν) (hn : n < maxLen) {x : List UInt8} (hx : x.length ≤ maxLen) {c : Int} (hc : (Lit.int .i64 c).wf = true) :
    ∃ w', (Instr.mapUpdate 122 (.map (some b)) (.string (bstr x)) (.int .i64 c)).run Try.prog w = .ok () w' ∧ NamesAt w' b (n + 1) (ν.set x c) ∧ Ch (fun k => k = b) w w' := by
  obtain ⟨⟨D, h1, hs, h2⟩, h3, h4⟩ := h
  obtain ⟨w', hr, ho, ht⟩ := h1.store lawS Try.underlying122 hn (strLit_key x hx) (plainElem_int Try.underlying3 hc)
  refine ⟨w', hr, ⟨⟨_, ho, ?_, fun z => ?_⟩, Nms.nodup_set h3 x c, fun z hz => ?_⟩, turned_ch ht⟩
  · rw [Maps.size_put (h1.tidy lawS), (h2 x).1, hs]
    have hl := Nms.length_cut h3 x
    show _ = (Nms.cut ν x).length + 1
    by_cases e : x ∈ ν.names
    · rw [if_pos e] at hl
      rw [if_pos (decide_eq_true e)]
      omega
    · rw [if_neg e] at hl
      rw [if_neg (by simpa using e)]
      omega
  · by_cases e : z = x
    · subst e
      refine ⟨?_, ?_⟩
      · rw [Maps.has_put_same h1.isMap (strLit_is hx)]
        exact (decide_eq_true (show z ∈ (Nms.set ν z c).names from List.mem_cons_self ..)).symm
      · rw [Maps.atKey_put_same h1.isMap (strLit_is hx), Nms.get_same]; rfl
    · have hne : (Lit.string z) ≠ .string x := fun h => e (by injection h)
      refine ⟨?_, ?_⟩
      · rw [Maps.has_put_other hne, (h2 z).1]
        refine decide_eq_decide.2 ?_
        show _ ↔ z ∈ x :: (Nms.cut ν x).names
        rw [List.mem_cons, Nms.names_cut]
        exact ⟨fun h => .inr ⟨h, e⟩, fun h => (h.resolve_left e).1⟩
      · rw [Maps.atKey_put_other hne, (h2 z).2, Nms.get_set e]
  · rcases List.mem_cons.1 (show z ∈ x :: (Nms.cut ν x).names from hz) with rfl | h
    · exact hx
    · exact h4 z (Nms.names_cut.1 h).1
theorem NamesAt.drop (h : NamesAt w b n ν) {x : List UInt8} (hx : x.length ≤ maxLen) (ty : TypeId) :
    ∃ w', (Builtin.delete_ #[122, 9] ty #[.map (some b), .string (bstr x)]).run Try.prog w = .ok (.tuple #[]) w' ∧ NamesAt w' b n (ν.cut x) ∧ Ch (fun k => k = b) w w' := by
  obtain ⟨⟨D, h1, hs, h2⟩, h3, h4⟩ := h
  obtain ⟨w', hr, ho, ht⟩ := h1.drop lawS Try.underlying122 (strLit_key x hx) ty
  refine ⟨w', hr, ⟨⟨_, ho, ?_, fun z => ?_⟩, Nms.nodup_cut h3 x, fun z hz => h4 z (Nms.names_cut.1 hz).1⟩, turned_ch ht⟩
  · have h5 := Maps.size_del (k := .string x) (h1.tidy lawS)
    have hl := Nms.length_cut h3 x
    rw [(h2 x).1, hs] at h5
    by_cases e : x ∈ ν.names
    · rw [if_pos e] at hl
      rw [if_pos (decide_eq_true e)] at h5
      omega
    · rw [if_neg e] at hl
      rw [if_neg (by simpa using e)] at h5
      omega
  · by_cases e : z = x
    · subst e
      refine ⟨?_, ?_⟩
      · rw [Maps.has_del_same]
        exact (decide_eq_false (fun h => (Nms.names_cut.1 h).2 rfl)).symm
      · rw [Maps.atKey_del_same, Nms.get_cut_same]
    · have hne : (Lit.string z) ≠ .string x := fun h => e (by injection h)
      refine ⟨?_, ?_⟩
      · rw [Maps.has_del_other hne, (h2 z).1]
        refine decide_eq_decide.2 ?_
        rw [Nms.names_cut]
        exact ⟨fun h => ⟨h, e⟩, fun h => h.1⟩
      · rw [Maps.atKey_del_other hne, (h2 z).2, Nms.get_cut e]
end
end Go.Proofs.Ytfllneenonhonaa.Store

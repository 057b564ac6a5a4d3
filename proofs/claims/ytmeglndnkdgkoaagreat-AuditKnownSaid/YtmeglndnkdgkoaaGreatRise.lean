/- Keys in rising order: how a rising list of entries parts at a bit. -/
import Derived.Test.YtmeglndnkdgkoaaGreatPutP1
import Derived.Lib.Bytealg
import Derived.Sort.Statements
namespace Go.Proofs.YtmeglndnkdgkoaaGreat.Store
open Go Go.RowKit Go.Proofs.YtmeglndnkdgkoaaGreat Go.Proofs.YtmeglndnkdgkoaaGreat.ShaW Go.Proofs.YtmeglndnkdgkoaaGreat.Path
set_option linter.unusedVariables false

theorem u8_lt {a b : UInt8} : a < b ↔ a.toNat < b.toNat := UInt8.lt_iff_toNat_lt
theorem u8_eq {a b : UInt8} : a = b ↔ a.toNat = b.toNat := UInt8.toNat_inj.symm
theorem div_step (n j : Nat) (hj : j < 8) : n / 2 ^ (7 - j) = 2 * (n / 2 ^ (8 - j)) + n / 2 ^ (7 - j) % 2 := by
  have : n / 2 ^ (8 - j) = n / 2 ^ (7 - j) / 2 := by
    rw [Nat.div_div_eq_div_mul, ← Nat.pow_succ, Nat.succ_eq_add_one, show 7 - j + 1 = 8 - j by omega]
  omega
theorem high_eq (x y : UInt8) : ∀ j, j ≤ 8 → (∀ i, i < j → bbit x i = bbit y i) → x.toNat / 2 ^ (8 - j) = y.toNat / 2 ^ (8 - j)
  | 0, _, _ => by
    have a := x.toNat_lt
    have b := y.toNat_lt
    rw [Nat.div_eq_of_lt (by simpa using a), Nat.div_eq_of_lt (by simpa using b)]
  | j + 1, hj, h => by
    have ih := high_eq x y j (by omega) (fun i hi => h i (by omega))
    have e := h j (by omega)
    unfold bbit at e
    have a := div_step x.toNat j (by omega)
    have b := div_step y.toNat j (by omega)
    rw [show 8 - (j + 1) = 7 - j by omega, a, b, ih, e]
theorem byte_lt (x y : UInt8) (j : Nat) (hj : j < 8) (h : ∀ i, i < j → bbit x i = bbit y i) (hx : bbit x j = 0) (hy : bbit y j = 1) : x < y := by
  rw [u8_lt]
  have e := high_eq x y j (by omega) h
  have a := div_step x.toNat j hj
  have b := div_step y.toNat j hj
  unfold bbit at hx hy
  rw [hx, e] at a
  rw [hy] at b
  rcases Nat.lt_or_ge x.toNat y.toNat with g | g
  · exact g
  · have := Nat.div_le_div_right (c := 2 ^ (7 - j)) g
    omega
theorem byte_eq (x y : UInt8) (h : ∀ i, i < 8 → bbit x i = bbit y i) : x = y := by
  rw [u8_eq]
  have e := high_eq x y 8 (Nat.le_refl _) h
  simpa using e
theorem kbit_hd (x : UInt8) (l : List UInt8) {d : Nat} (h : d < 8) : kbit (x :: l) d = bbit x d := by
  unfold kbit
  rw [Nat.div_eq_of_lt h, Nat.mod_eq_of_lt h]
  rfl
theorem kbit_tl (x : UInt8) (l : List UInt8) (d : Nat) : kbit (x :: l) (d + 8) = kbit l d := by
  unfold kbit
  rw [Nat.add_div_right _ (by omega), Nat.add_mod_right]
  rfl
/-- Keys that first part at a bit stand in its order. -/
theorem cmp_bits : ∀ (a b : List UInt8) (d : Nat), a.length = b.length → d < 8 * a.length → Pre a b d → kbit a d = 0 → kbit b d = 1 → Lib.compareBytes a b = -1
  | [], _, d, _, h, _, _, _ => absurd h (by simp)
  | _ :: _, [], _, h, _, _, _, _ => absurd h (by simp)
  | x :: l, y :: m, d, hl, hd, hp, ha, hb => by
    by_cases h8 : d < 8
    · rw [kbit_hd x l h8] at ha
      rw [kbit_hd y m h8] at hb
      have := byte_lt x y d h8 (fun i hi => by have := hp i hi; rwa [kbit_hd x l (by omega), kbit_hd y m (by omega)] at this) ha hb
      unfold Lib.compareBytes
      rw [if_pos this]
    · obtain ⟨e, rfl⟩ : ∃ e, d = e + 8 := ⟨d - 8, by omega⟩
      rw [kbit_tl] at ha hb
      have hxy := byte_eq x y (fun i hi => by have := hp i (by omega); rwa [kbit_hd x l hi, kbit_hd y m hi] at this)
      subst hxy
      unfold Lib.compareBytes
      rw [if_neg (UInt8.lt_irrefl x), if_neg (UInt8.lt_irrefl x)]
      refine cmp_bits l m e (by simpa using hl) (by simp at hd; omega) (fun i hi => ?_) ha hb
      have := hp (i + 8) (by omega)
      rwa [kbit_tl, kbit_tl] at this
theorem cmp_self : ∀ a : List UInt8, Lib.compareBytes a a = 0
  | [] => rfl
  | x :: l => by
    unfold Lib.compareBytes
    rw [if_neg (UInt8.lt_irrefl x), if_neg (UInt8.lt_irrefl x)]
    exact cmp_self l
theorem cmp_lt_trans : ∀ a b c : List UInt8, Lib.compareBytes a b < 0 → Lib.compareBytes b c < 0 → Lib.compareBytes a c < 0
  | [], [], c, h, _ => absurd h (by decide)
  | [], _ :: _, [], _, h => absurd h (by simp [Lib.compareBytes])
  | [], _ :: _, _ :: _, _, _ => by simp [Lib.compareBytes]
  | _ :: _, [], _, h, _ => absurd h (by simp [Lib.compareBytes])
  | _ :: _, _ :: _, [], _, h => absurd h (by simp [Lib.compareBytes])
  | x :: a, y :: b, z :: c, h1, h2 => by
    have ih := cmp_lt_trans a b c
    unfold Lib.compareBytes at h1 h2 ⊢
    simp only [u8_lt] at h1 h2 ⊢
    by_cases e1 : x.toNat < y.toNat
    · by_cases e2 : y.toNat < z.toNat
      · rw [if_pos (by omega)]; decide
      · rw [if_neg e2] at h2
        by_cases e3 : z.toNat < y.toNat
        · rw [if_pos e3] at h2; exact absurd h2 (by decide)
        · rw [if_pos (by omega)]; decide
    · rw [if_neg e1] at h1
      by_cases e0 : y.toNat < x.toNat
      · rw [if_pos e0] at h1; exact absurd h1 (by decide)
      · rw [if_neg e0] at h1
        by_cases e2 : y.toNat < z.toNat
        · rw [if_pos (by omega)]; decide
        · rw [if_neg e2] at h2
          by_cases e3 : z.toNat < y.toNat
          · rw [if_pos e3] at h2; exact absurd h2 (by decide)
          · rw [if_neg e3] at h2
            rw [if_neg (by omega), if_neg (by omega)]
            exact ih h1 h2
theorem cmp_ge_trans : ∀ a b c : List UInt8, ¬ Lib.compareBytes a b < 0 → ¬ Lib.compareBytes b c < 0 → ¬ Lib.compareBytes a c < 0
  | [], [], c, _, h => h
  | [], _ :: _, _, h, _ => absurd (by simp [Lib.compareBytes]) h
  | _ :: _, [], [], _, _ => by simp [Lib.compareBytes]
  | _ :: _, [], _ :: _, _, h => absurd (by simp [Lib.compareBytes]) h
  | _ :: _, _ :: _, [], _, _ => by simp [Lib.compareBytes]
  | x :: a, y :: b, z :: c, h1, h2 => by
    have ih := cmp_ge_trans a b c
    unfold Lib.compareBytes at h1 h2 ⊢
    simp only [u8_lt] at h1 h2 ⊢
    by_cases e1 : x.toNat < y.toNat
    · rw [if_pos e1] at h1; exact absurd (by decide) h1
    · rw [if_neg e1] at h1
      by_cases e2 : y.toNat < z.toNat
      · rw [if_pos e2] at h2; exact absurd (by decide) h2
      · rw [if_neg e2] at h2
        rw [if_neg (by omega)]
        by_cases e0 : y.toNat < x.toNat
        · rw [if_pos (by omega)]; decide
        · rw [if_neg e0] at h1
          by_cases e3 : z.toNat < y.toNat
          · rw [if_pos (by omega)]; decide
          · rw [if_neg e3] at h2
            rw [if_neg (by omega)]
            exact ih h1 h2
/-- No later key is less than an earlier one. -/
def Rising (L : Ents) : Prop := L.Pairwise fun p q => ¬ Lib.compareBytes q.1 p.1 < 0
theorem Rising.take {L : Ents} (h : Rising L) (n : Nat) : Rising (L.take n) := h.sublist (List.take_sublist n L)
theorem Rising.drop {L : Ents} (h : Rising L) (n : Nat) : Rising (L.drop n) := h.sublist (List.drop_sublist n L)
/-- In a rising list of keys that are alike up to a bit those with 0 there come first. -/
theorem rising_bit {L : Ents} {k : List UInt8} {d : Nat} (hO : L.Ok k d) (hd : d < 256) (hr : Rising L) {i j : Nat} {p q : List UInt8 × List UInt8} (hij : i ≤ j) (hp : L[i]? = some p) (hq : L[j]? = some q) (h1 : kbit p.1 d = 1) : kbit q.1 d = 1 := by
  rcases Nat.lt_or_ge i j with h | h
  · rcases kbit_cases q.1 d with h0 | h0
    · exfalso
      have mp := List.mem_of_getElem? hp
      have mq := List.mem_of_getElem? hq
      have hc := cmp_bits q.1 p.1 d (by rw [hO.len p mp, hO.len q mq]) (by rw [hO.len q mq]; omega) ((hO.pre q mq).trans (hO.pre p mp).symm) h0 h1
      obtain ⟨hil, rfl⟩ := List.getElem?_eq_some_iff.1 hp
      obtain ⟨hjl, rfl⟩ := List.getElem?_eq_some_iff.1 hq
      have := List.pairwise_iff_getElem.1 hr i j hil hjl h
      rw [hc] at this
      exact this (by decide)
    · exact h0
  · have : i = j := by omega
    subst this
    rw [hp] at hq
    cases hq
    exact h1
/-- How many come first, parts the list. -/
theorem part_sides {L : Ents} {k : List UInt8} {d n : Nat} (hO : L.Ok k d) (hd : d < 256) (hr : Rising L) (h0 : ∀ i p, i < n → L[i]? = some p → kbit p.1 d = 0) (h1 : ∀ p, L[n]? = some p → kbit p.1 d = 1) : sideE 0 d L = L.take n ∧ sideE 1 d L = L.drop n := by
  have a0 : ∀ p ∈ L.take n, kbit p.1 d = 0 := fun p hp => by
    obtain ⟨i, hi⟩ := List.mem_iff_getElem?.1 hp
    rw [List.getElem?_take] at hi
    split at hi
    · rename_i hin
      exact h0 i p hin hi
    · cases hi
  have a1 : ∀ p ∈ L.drop n, kbit p.1 d = 1 := fun p hp => by
    obtain ⟨i, hi⟩ := List.mem_iff_getElem?.1 hp
    rw [List.getElem?_drop] at hi
    have hnl : n < L.length := by have := (List.getElem?_eq_some_iff.1 hi).1; omega
    exact rising_bit hO hd hr (Nat.le_add_right n i) (List.getElem?_eq_getElem hnl) hi (h1 _ (List.getElem?_eq_getElem hnl))
  have hs := List.take_append_drop n L
  constructor
  · unfold sideE
    conv => lhs; rw [← hs, List.filter_append]
    rw [List.filter_eq_self.2 (fun p hp => by simp [a0 p hp]), List.filter_eq_nil_iff.2 (fun p hp => by simp [a1 p hp]), List.append_nil]
  · unfold sideE
    conv => lhs; rw [← hs, List.filter_append]
    rw [List.filter_eq_nil_iff.2 (fun p hp => by simp [a0 p hp]), List.filter_eq_self.2 (fun p hp => by simp [a1 p hp]), List.nil_append]
theorem Ents.Ok.sides {L : Ents} {k : List UInt8} {d : Nat} (hO : L.Ok k d) (b : Nat) (hb : b < 2) : ∃ k', Ents.Ok (sideE b d L) k' (d + 1) := by
  match hL : sideE b d L with
  | [] => exact ⟨k, by simp [keysOf], by simp, by simp⟩
  | p :: R =>
    have hm : ∀ q ∈ sideE b d L, q ∈ L ∧ kbit q.1 d = b := fun q hq => ⟨(List.mem_filter.1 hq).1, by simpa using (List.mem_filter.1 hq).2⟩
    have hp := hm p (by rw [hL]; simp)
    refine ⟨p.1, ?_⟩
    rw [← hL]
    exact ⟨(hO.filter _).nodup, (hO.filter _).len, fun q hq => ((hO.pre q (hm q hq).1).trans (hO.pre p hp.1).symm).next (by rw [(hm q hq).2, hp.2])⟩
theorem Tr.dig_length : ∀ t : Tr, t.dig.length = 32
  | .nil => Tag.digest_length _ _
  | .leaf _ _ => Tag.digest_length _ _
  | .node _ _ => Tag.digest_length _ _
end Go.Proofs.YtmeglndnkdgkoaaGreat.Store

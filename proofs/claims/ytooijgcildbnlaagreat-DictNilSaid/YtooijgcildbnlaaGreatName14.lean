/- versions.Name: which texts are names. -/
import Derived.Test.YtooijgcildbnlaaGreatPutW1
import Derived.Deep.LoopGhost
namespace Go.Proofs.YtooijgcildbnlaaGreat.Store
open Go Go.RowKit Go.Proofs.YtooijgcildbnlaaGreat Go.Proofs.YtooijgcildbnlaaGreat.ShaW Go.Proofs.YtooijgcildbnlaaGreat.Path
set_option maxHeartbeats 1600000
set_option linter.unusedVariables false
set_option linter.unusedSimpArgs false

def lettB (c : UInt8) : Bool := decide (97 ≤ (c.toNat : Int) ∧ (c.toNat : Int) ≤ 122)
def moreB (c : UInt8) : Bool := decide ((c.toNat : Int) = 45 ∨ (48 ≤ (c.toNat : Int) ∧ (c.toNat : Int) ≤ 57))
def nameIx (i : Nat) (c : UInt8) : Bool := lettB c || (decide (i ≠ 0) && moreB c)
theorem nameIx_iff {i : Nat} {c : UInt8} : nameIx i c = true ↔ (97 ≤ (c.toNat : Int) ∧ (c.toNat : Int) ≤ 122) ∨ (i ≠ 0 ∧ ((c.toNat : Int) = 45 ∨ (48 ≤ (c.toNat : Int) ∧ (c.toNat : Int) ≤ 57))) := by
  simp only [nameIx, lettB, moreB, Bool.or_eq_true, Bool.and_eq_true, decide_eq_true_eq]
def nameB (l : List UInt8) : Bool := decide (1 ≤ l.length ∧ l.length ≤ 20) && (List.range l.length).all (fun i => nameIx i (l.getD i 0))
theorem nameB_iff {l : List UInt8} : nameB l = true ↔ (1 ≤ l.length ∧ l.length ≤ 20) ∧ ∀ i, i < l.length → nameIx i (l.getD i 0) = true := by
  simp only [nameB, Bool.and_eq_true, decide_eq_true_eq, List.all_eq_true, List.mem_range]
theorem str_getD (s : ByteArray) (k : Nat) (h : k < s.size) : s.data.toList.getD k 0 = s[k] := by
  rw [List.getD_eq_getElem?_getD, List.getElem?_eq_getElem (by simpa using h)]
  rfl
theorem bstr_list (s : ByteArray) : bstr s.data.toList = s := by cases s; simp [bstr]
theorem bstr_data (l : List UInt8) : (bstr l).data.toList = l := by simp [bstr]
theorem bstr_size (l : List UInt8) : (bstr l).size = l.length := by show l.toArray.size = _; simp
theorem ret_bool {a b : Bool} (h : a = b) : Ending.returned (.bool a) = .returned (.bool b) := by rw [h]
theorem Name_ok (s : ByteArray) (hs : s.size ≤ maxLen) (w : World) :
    Calls Tryz.prog 114 #[.string s] w fun e w' => e = .returned (.bool (nameB s.data.toList)) ∧ w' = w := by
  unfold maxLen at hs
  by_cases h0 : s.size < 1
  · have hn : nameB s.data.toList = false := by
      rw [← Bool.not_eq_true, nameB_iff]
      rintro ⟨⟨h1, _⟩, _⟩
      have : s.data.toList.length = s.size := by simp
      omega
    have hx : (s.size : Int) < 1 := by omega
    rw [hn]
    clear hn
    go_enter Tryz.func114, Tryz.ntmps114
    go_wp2
    go_ret
    exact ⟨rfl, rfl⟩
  · have hx : ¬ (s.size : Int) < 1 := by omega
    have hxd : decide ((s.size : Int) < 1) = false := decide_eq_false hx
    by_cases h2 : 20 < s.size
    · have hn : nameB s.data.toList = false := by
        rw [← Bool.not_eq_true, nameB_iff]
        rintro ⟨⟨_, h1⟩, _⟩
        have : s.data.toList.length = s.size := by simp
        omega
      have hy : (20 : Int) < (s.size : Int) := by omega
      have hyd : decide ((20 : Int) < (s.size : Int)) = true := decide_eq_true hy
      have hyd' : decide (20 < s.size) = true := decide_eq_true h2
      rw [hn]
      clear hn
      go_enter Tryz.func114, Tryz.ntmps114
      go_wp2
      go_ret
      exact ⟨rfl, rfl⟩
    · have hy : ¬ (20 : Int) < (s.size : Int) := by omega
      have hyd : decide ((20 : Int) < (s.size : Int)) = false := decide_eq_false hy
      have hyd' : decide (20 < s.size) = false := decide_eq_false h2
      go_enter Tryz.func114, Tryz.ntmps114
      go_wp2
      go_loop [3, 4, 5, 16] (fun s3 s4 s5 s16 => ∃ k : Nat, k ≤ s.size ∧ s16 = .int .i64 k ∧ RowKit.Hid (∀ i, i < k → nameIx i (s.data.toList.getD i 0) = true)) (fun _ _ _ i => s.size - (intOf i).toNat)
      case atStart => exact ⟨0, Nat.zero_le _, rfl, Lib.hid (fun i hi => absurd hi (Nat.not_lt_zero _))⟩
      case round =>
        obtain ⟨k, hk, rfl, hN⟩ := hrel
        by_cases hlt : k < s.size
        · by_cases hk0 : k = 0
          · subst hk0
            have hg := str_getD s 0 (by omega)
            have HG := Lib.hid hg
            have HI := Lib.hid (nameIx_iff (i := 0) (c := s[0]))
            clear hg
            go_wp2
            all_goals first
              | (go_round
                 case rel => exact ⟨0 + 1, by omega, by go_num, Lib.hid (fun i hi => by
                   by_cases e : i = 0
                   · rw [e, HG.out, HI.out]
                     first | omega | (simp only [decide_eq_true_eq, decide_eq_false_iff_not, beq_iff_eq, bne_iff_ne, beq_eq_false_iff_ne, bne_eq_false_iff_eq, ne_eq, Bool.not_eq_true, Bool.not_eq_false', Bool.not_eq_true', Bool.and_eq_true, Bool.or_eq_true, Bool.and_eq_false_imp, Bool.or_eq_false_iff, Decidable.not_not] at *; omega) | (simp only [decide_eq_true_eq, decide_eq_false_iff_not, beq_iff_eq, bne_iff_ne, beq_eq_false_iff_ne, bne_eq_false_iff_eq, ne_eq, Bool.not_eq_true, Bool.not_eq_false', Bool.not_eq_true', Bool.and_eq_true, Bool.or_eq_true, Bool.and_eq_false_imp, Bool.or_eq_false_iff, Decidable.not_not] at *; done)
                   · exact hN.out i (by omega))⟩
                 case measure => simp [intOf]; omega)
              | (go_ret
                 refine ⟨ret_bool ?_, rfl⟩
                 symm
                 rw [← Bool.not_eq_true, nameB_iff]
                 rintro ⟨_, h⟩
                 have h5 := h 0 (by simpa using hlt)
                 rw [HG.out, HI.out] at h5
                 first | omega | (simp only [decide_eq_true_eq, decide_eq_false_iff_not, beq_iff_eq, bne_iff_ne, beq_eq_false_iff_ne, bne_eq_false_iff_eq, ne_eq, Bool.not_eq_true, Bool.not_eq_false', Bool.not_eq_true', Bool.and_eq_true, Bool.or_eq_true, Bool.and_eq_false_imp, Bool.or_eq_false_iff, Decidable.not_not] at *; omega) | (simp only [decide_eq_true_eq, decide_eq_false_iff_not, beq_iff_eq, bne_iff_ne, beq_eq_false_iff_ne, bne_eq_false_iff_eq, ne_eq, Bool.not_eq_true, Bool.not_eq_false', Bool.not_eq_true', Bool.and_eq_true, Bool.or_eq_true, Bool.and_eq_false_imp, Bool.or_eq_false_iff, Decidable.not_not] at *; done))
          · have hkd : decide ((k : Int) = 0) = false := decide_eq_false (by omega)
            have hke : ((k : Int) == 0) = false := by simpa using hk0
            have hg := str_getD s k (by omega)
            have HG := Lib.hid hg
            have HI := Lib.hid (nameIx_iff (i := k) (c := s[k]))
            clear hg
            go_wp2
            all_goals first
              | (go_round
                 case rel => exact ⟨k + 1, by omega, by go_num, Lib.hid (fun i hi => by
                   by_cases e : i = k
                   · rw [e, HG.out, HI.out]
                     first | omega | (simp only [decide_eq_true_eq, decide_eq_false_iff_not, beq_iff_eq, bne_iff_ne, beq_eq_false_iff_ne, bne_eq_false_iff_eq, ne_eq, Bool.not_eq_true, Bool.not_eq_false', Bool.not_eq_true', Bool.and_eq_true, Bool.or_eq_true, Bool.and_eq_false_imp, Bool.or_eq_false_iff, Decidable.not_not] at *; omega) | (simp only [decide_eq_true_eq, decide_eq_false_iff_not, beq_iff_eq, bne_iff_ne, beq_eq_false_iff_ne, bne_eq_false_iff_eq, ne_eq, Bool.not_eq_true, Bool.not_eq_false', Bool.not_eq_true', Bool.and_eq_true, Bool.or_eq_true, Bool.and_eq_false_imp, Bool.or_eq_false_iff, Decidable.not_not] at *; done)
                   · exact hN.out i (by omega))⟩
                 case measure => simp [intOf]; omega)
              | (go_ret
                 refine ⟨ret_bool ?_, rfl⟩
                 symm
                 rw [← Bool.not_eq_true, nameB_iff]
                 rintro ⟨_, h⟩
                 have h5 := h k (by simpa using hlt)
                 rw [HG.out, HI.out] at h5
                 first | omega | (simp only [decide_eq_true_eq, decide_eq_false_iff_not, beq_iff_eq, bne_iff_ne, beq_eq_false_iff_ne, bne_eq_false_iff_eq, ne_eq, Bool.not_eq_true, Bool.not_eq_false', Bool.not_eq_true', Bool.and_eq_true, Bool.or_eq_true, Bool.and_eq_false_imp, Bool.or_eq_false_iff, Decidable.not_not] at *; omega) | (simp only [decide_eq_true_eq, decide_eq_false_iff_not, beq_iff_eq, bne_iff_ne, beq_eq_false_iff_ne, bne_eq_false_iff_eq, ne_eq, Bool.not_eq_true, Bool.not_eq_false', Bool.not_eq_true', Bool.and_eq_true, Bool.or_eq_true, Bool.and_eq_false_imp, Bool.or_eq_false_iff, Decidable.not_not] at *; done))
        · go_wp2
          go_ret
          refine ⟨ret_bool ?_, rfl⟩
          symm
          rw [nameB_iff]
          have hl : s.data.toList.length = s.size := by simp
          exact ⟨by omega, fun i hi => hN.out i (by omega)⟩
end Go.Proofs.YtooijgcildbnlaaGreat.Store

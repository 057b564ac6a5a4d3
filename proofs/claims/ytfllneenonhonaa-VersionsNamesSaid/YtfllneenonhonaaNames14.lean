/- VersionsNames: which texts are names: the walk. -/
import Derived.Test.YtfllneenonhonaaOne14
import Derived.Deep.LoopGhost
import Derived.Deep.CutRange
import Derived.Deep.DeepCutAuto
import Derived.Deep.CutBlock
namespace Go.Proofs.Ytfllneenonhonaa.Law14
open Go Go.RowKit Go.Proofs.Ytfllneenonhonaa Go.Proofs.Ytfllneenonhonaa.ShaW Go.Proofs.Ytfllneenonhonaa.Path Go.Proofs.Ytfllneenonhonaa.Store Go.Proofs.Ytfllneenonhonaa.Law9
set_option maxHeartbeats 3200000
set_option linter.unusedVariables false
set_option linter.unusedSimpArgs false

def lenB (n : Nat) : Bool := decide (1 ≤ n ∧ n ≤ 20)
def rightB (l : List UInt8) (k : Nat) : Bool := lenB l.length && (List.range k).all (fun i => nameIx i (l.getD i 0))
theorem rightB_zero (l : List UInt8) : rightB l 0 = lenB l.length := by simp [rightB]
theorem rightB_next (l : List UInt8) (k : Nat) : rightB l (k + 1) = (rightB l k && nameIx k (l.getD k 0)) := by
  unfold rightB
  rw [List.range_succ, List.all_append]
  simp [Bool.and_assoc]
theorem rightB_all (l : List UInt8) : rightB l l.length = nameB l := rfl
theorem rightB_false {l : List UInt8} {k : Nat} (hk : k ≤ l.length) (h : rightB l k = false) : nameB l = false := by
  rw [← Bool.not_eq_true] at h ⊢
  intro hn
  obtain ⟨h1, h2⟩ := nameB_iff.1 hn
  apply h
  unfold rightB lenB
  rw [Bool.and_eq_true, decide_eq_true_eq, List.all_eq_true]
  exact ⟨h1, fun i hi => h2 i (by have := List.mem_range.1 hi; omega)⟩
set_option maxRecDepth 100000 in
theorem names_law (s : ByteArray) (hs : s.size ≤ maxLen) (w : World) : Calls Try.prog 6 #[.string s] w fun e w' => e = .returned (.bool true) ∧ Adds w w' := by
  have hs0 := hs
  unfold maxLen at hs
  have hnm := Name_is s.data.toList (by simpa using hs0)
  rw [bstr_list] at hnm
  have HNM := Lib.hid hnm
  have hll : s.data.toList.length = s.size := by simp
  have HLL := Lib.hid hll
  have HS0 := Lib.hid hs0
  clear hnm hll hs0
  go_enter Try.func6, Try.ntmps6
  go_upto_region 1 with fail
  go_cut [3] (fun s3 wx => s3 = .bool (lenB s.size) ∧ Adds w wx)
  case first =>
    by_cases h1 : 1 ≤ s.size
    · have e1 : (1 : Int) ≤ (s.size : Int) := by omega
      by_cases h2 : s.size ≤ 20
      · have e2 : (s.size : Int) ≤ 20 := by omega
        have hb : lenB s.size = true := decide_eq_true ⟨h1, h2⟩
        have HBB := Lib.hid hb
        clear hb
        go_wp2
        all_goals go_meet
        all_goals (case rel => exact ⟨(by first | (rw [HBB.out]; done) | (rw [HBB.out]; congr 1; done) | (rw [HBB.out]; congr 1; simp; done) | (rw [HBB.out]; congr 1; simp; omega)), Ch.refl _ _⟩)
      · have e2 : ¬ (s.size : Int) ≤ 20 := by omega
        have hb : lenB s.size = false := decide_eq_false (fun h => h2 h.2)
        have HBB := Lib.hid hb
        clear hb
        go_wp2
        all_goals go_meet
        all_goals (case rel => exact ⟨(by first | (rw [HBB.out]; done) | (rw [HBB.out]; congr 1; done) | (rw [HBB.out]; congr 1; simp; done) | (rw [HBB.out]; congr 1; simp; omega)), Ch.refl _ _⟩)
    · have e1 : ¬ (1 : Int) ≤ (s.size : Int) := by omega
      have hb : lenB s.size = false := decide_eq_false (fun h => h1 h.1)
      have HBB := Lib.hid hb
      clear hb
      go_wp2
      all_goals go_meet
      all_goals (case rel => exact ⟨(by first | (rw [HBB.out]; done) | (rw [HBB.out]; congr 1; done) | (rw [HBB.out]; congr 1; simp; done) | (rw [HBB.out]; congr 1; simp; omega)), Ch.refl _ _⟩)
  case rest =>
  obtain ⟨rfl, hax⟩ := hcut
  have HAX := Lib.hid hax
  clear hax
  go_upto_block 0 with fail
  go_cut [3, 4, 5] (fun s3 s4 s5 wx => s3 = .bool (nameB s.data.toList) ∧ Adds w wx)
  case first =>
    go_wp2
    go_loopg [3, 4, 5] s.size (fun g s3 s4 s5 wr => ∃ (k : Nat) (b : Bool), k + g = s.size ∧ s4 = .int .i64 k ∧ s3 = .bool b ∧ RowKit.Hid (b = rightB s.data.toList k) ∧ Adds w wr)
    case atStart => exact ⟨0, _, by omega, rfl, rfl, Lib.hid (by rw [rightB_zero, HLL.out]), HAX.out⟩
    case round =>
      obtain ⟨k, b, hk, rfl, rfl, hb, hA⟩ := hrel
      have HA := Lib.hid hA
      clear hA
      by_cases hlt : k < s.size
      · have hlt' : (k : Int) < (s.size : Int) := by omega
        cases b with
        | false =>
          go_wp2
          go_meet
          case rel => exact ⟨by rw [rightB_false (by rw [HLL.out]; omega) hb.out.symm], HA.out⟩
        | true =>
          obtain ⟨g, rfl⟩ : ∃ g, gk = g + 1 := ⟨gk - 1, by omega⟩
          have hg := str_getD s k hlt
          have hnx := rightB_next s.data.toList k
          rw [← hb.out, Bool.true_and, hg] at hnx
          have HR := Lib.hid hnx
          have HI := Lib.hid (nameIx_iff (i := k) (c := s[k]))
          clear hg hnx
          go_wp2
          all_goals (
            go_roundg g
            case measure => omega
            case rel => exact ⟨k + 1, _, by omega, by go_num, rfl, Lib.hid (by
              rw [HR.out, Bool.eq_iff_iff, HI.out]
              first
                | omega
                | (simp only [decide_eq_true_eq, decide_eq_false_iff_not, beq_iff_eq, bne_iff_ne, beq_eq_false_iff_ne, bne_eq_false_iff_eq, ne_eq, Bool.not_eq_true, Bool.not_eq_false', Bool.not_eq_true', Bool.and_eq_true, Bool.or_eq_true, Bool.and_eq_false_imp, Bool.or_eq_false_iff, Decidable.not_not, reduceCtorEq, true_iff, false_iff, iff_true, iff_false] at *; omega)
                | (simp only [decide_eq_true_eq, decide_eq_false_iff_not, beq_iff_eq, bne_iff_ne, beq_eq_false_iff_ne, bne_eq_false_iff_eq, ne_eq, Bool.not_eq_true, Bool.not_eq_false', Bool.not_eq_true', Bool.and_eq_true, Bool.or_eq_true, Bool.and_eq_false_imp, Bool.or_eq_false_iff, Decidable.not_not, reduceCtorEq, true_iff, false_iff, iff_true, iff_false] at *; done)), HA.out⟩)
      · obtain rfl : k = s.size := by omega
        go_wp2
        go_meet
        case rel => exact ⟨by rw [hb.out, ← rightB_all, HLL.out], HA.out⟩
  case rest =>
  obtain ⟨rfl, hax2⟩ := hcut
  have HAX2 := Lib.hid hax2
  clear hax2 HAX
  obtain ⟨nb, hnb⟩ : ∃ nb, nb = nameB s.data.toList := ⟨_, rfl⟩
  have hnm2 := HNM.out
  rw [← hnb] at hnm2 ⊢
  have HN2 := Lib.hid hnm2
  have HNB := Lib.hid hnb
  clear hnm2 hnb HNM
  go_wp2_with fail
  refine (one_ok _).mono ?_; rintro e w1 ⟨st, v, r, σ, rfl, h1⟩
  have H1 := Lib.hid h1
  clear h1
  cases nb with
  | true =>
    have hadd := H1.out.add HNB.out.symm (by simp [Nms.names]) (by decide) (by decide)
    rw [bstr_list] at hadd
    have HADD := Lib.hid hadd
    clear hadd
    go_wp2_with fail
    refine HADD.out.mono ?_; rintro e w2 ⟨σ2, rfl, h2⟩
    have H2 := Lib.hid (HAX2.out.trans h2.world (fun _ h => h.elim))
    clear h2
    go_wp2_with fail
    refine (awake_ok _).mono ?_; rintro e w3 ⟨rfl, a3⟩
    have H3 := Lib.hid (H2.out.trans a3 (fun _ h => h.elim))
    clear a3
    go_wp2_with fail
    refine (HN2.out _).mono ?_; rintro e w4 ⟨rfl, rfl⟩
    go_wp2
    go_ret
    exact ⟨rfl, H3.out⟩
  | false =>
    have hadd := H1.out.addNo (x := s.data.toList) (root := r) (c := 5) (by simpa using HS0.out) (by unfold addErr; rw [if_pos HNB.out.symm]) (by decide)
    rw [bstr_list] at hadd
    have HADD := Lib.hid hadd
    clear hadd
    go_wp2_with fail
    refine HADD.out.mono ?_; rintro e w2 ⟨rfl, a2⟩
    have H2 := Lib.hid (HAX2.out.trans (H1.out.adds a2).world (fun _ h => h.elim))
    clear a2
    go_wp2_with fail
    refine (awake_ok _).mono ?_; rintro e w3 ⟨rfl, a3⟩
    have H3 := Lib.hid (H2.out.trans a3 (fun _ h => h.elim))
    clear a3
    go_wp2_with fail
    refine (HN2.out _).mono ?_; rintro e w4 ⟨rfl, rfl⟩
    go_wp2
    go_ret
    exact ⟨rfl, H3.out⟩
end Go.Proofs.Ytfllneenonhonaa.Law14

/- The contract of a sha.State's Sum: the digest of the text. -/
import Derived.Test.YtdgdpbmaalcedaaShaX
namespace Go.Proofs.Ytdgdpbmaalcedaa.ShaW
open Go Go.RowKit Go.Proofs.Ytdgdpbmaalcedaa
set_option maxHeartbeats 3200000
set_option linter.unusedVariables false

theorem Stands.keep {F : Nat → Prop} {w w' : World} {a : Nat} {txt : List UInt8} (h : Stands w a txt) (hc : Ch F w w') (hF : ¬ F a) : Stands w' a txt := by
  obtain ⟨bl, h1, h2, h3⟩ := h
  exact ⟨bl, h1, h2, hc.row h3 hF⟩
theorem zeroH : (Try.prog.info? 71).bind (·.zero) = some (.agg (brow (List.replicate 32 0))) := by kernel_rfl
theorem sizeH : (Try.prog.info? 71).map (·.size) = some 32 := by kernel_rfl
theorem run_index_word (l : List UInt32) (hl : l.length = 8) (i : Nat) (hi : i < 8) (w : World) : (Instr.index 177 (.agg (wrow l)) (.int .i64 (i : Int))).run Try.prog w = .ok (wv (l.getD i 0)) w := by
  have hx := wrow_get (l := l) (i := i) (by omega)
  obtain ⟨inf, h1, h2⟩ : ∃ inf, Try.prog.info? 176 = some inf ∧ inf.size = 1 := by
    obtain ⟨inf, h1, h2⟩ := Option.map_eq_some_iff.1 (by kernel_rfl : (Try.prog.info? 176).map (·.size) = some 1)
    exact ⟨inf, h1, h2⟩
  have hsz : ∀ w, (sizeOf 176).run Try.prog w = .ok 1 w := fun w => by rw [← h2]; simp [sizeOf, typeInfo, h1]
  have hagg : ∀ w, (isAgg 176).run Try.prog w = .ok false w := fun w => by kernel_rfl
  unfold Instr.index
  simp only [asIntOf, Sem.run_bind, Sem.run_pure, Result.andThen_ok, run_underlying Try.underlying177]
  rw [if_pos (by omega)]
  simp only [Sem.run_bind, hsz, Result.andThen_ok, part, hagg]
  simp only [Int.toNat_natCast, Nat.mul_one, hx]
  rfl

/-- A digest so far, the rest zero. -/
def outs (l : List UInt32) (i : Nat) : List UInt8 := (l.take i).flatMap Sha.be4 ++ List.replicate (32 - 4 * i) 0
theorem flat4_length : ∀ (l : List UInt32), (l.flatMap Sha.be4).length = 4 * l.length
  | [] => rfl
  | x :: l => by
    have := flat4_length l
    simp only [List.flatMap_cons, List.length_append, this, List.length_cons, Sha.be4]
    simp; omega
theorem outs_length {l : List UInt32} (hl : l.length = 8) {i : Nat} (hi : i ≤ 8) : (outs l i).length = 32 := by
  simp only [outs, List.length_append, flat4_length, List.length_take, List.length_replicate]; omega
theorem outs_succ {l : List UInt32} (hl : l.length = 8) {i : Nat} (hi : i < 8) : (outs l i).take (4 * i) ++ (Sha.be4 (l.getD i 0) ++ (outs l i).drop (4 * i + 4)) = outs l (i + 1) := by
  have h1 : ((l.take i).flatMap Sha.be4).length = 4 * i := by rw [flat4_length, List.length_take]; omega
  unfold outs
  rw [List.take_append_of_le_length (by omega), List.take_of_length_le (by omega), List.drop_append, List.drop_eq_nil_of_le (by omega), List.nil_append, h1, List.drop_replicate]
  have h2 : l.take (i + 1) = l.take i ++ [l.getD i 0] := by
    rw [List.take_add_one, show l[i]? = some (l.getD i 0) by simp [hl, hi]]; rfl
  rw [h2, List.flatMap_append, List.append_assoc, show 32 - 4 * i - (4 * i + 4 - 4 * i) = 32 - 4 * (i + 1) by omega]
  simp
theorem outs_full {l : List UInt32} (hl : l.length = 8) : outs l 8 = l.flatMap Sha.be4 := by simp [outs, hl, List.take_of_length_le]

theorem hi_is (n : Nat) (h : n ≤ 1125899906842000) : ((n : Int) * (8 : Int)) / (4294967296 : Int) = ((UInt32.ofNat (n * 8 / 4294967296)).toNat : Int) := by
  rw [UInt32.toNat_ofNat', Nat.mod_eq_of_lt (by omega)]
  omega
theorem lo_is (n : Nat) (h : n ≤ 1125899906842000) : bits .and .u64 ((n : Int) * (8 : Int)) (4294967295 : Int) = ((UInt32.ofNat (n * 8)).toNat : Int) := by
  have e := u64_and_nat (n * 8) 4294967295 (by omega) (by omega)
  rw [UInt32.toNat_ofNat']
  have e2 : n * 8 &&& 4294967295 = (n * 8) % 4294967296 := by
    rw [show (4294967295 : Nat) = 2 ^ 32 - 1 by rfl, Nat.and_two_pow_sub_one_eq_mod]
  rw [e2] at e
  rw [show (2 : Nat) ^ 32 = 4294967296 by rfl, ← e]
  rfl

set_option maxRecDepth 100000 in
theorem Sum_ok {w : World} {a : Nat} {txt : List UInt8} (hs : Stands w a txt) (hlen : txt.length ≤ 1125899906842000) :
    Calls Try.prog 113 #[.pointer (some ⟨a, 0, none⟩)] w fun e w' => e = .returned (.agg (brow (Sha.sum txt))) ∧ Ch (fun _ => False) w w' := by
  obtain ⟨bl, hbl, hrest, hst⟩ := hs
  have hwl := Sha.words_length txt
  have c0 := row_cell hst stc_made
  have hal := row_lt hst
  obtain ⟨R, hR⟩ : ∃ R, R = stc (Sha.words txt) bl (txt.length % 64) txt.length := ⟨_, rfl⟩
  have hRs : R.size = 75 := by rw [hR]; exact stc_size hwl hbl
  have hR1 : ∀ v ∈ R.toList, v.oneCell' = true := fun v hv => by
    rw [hR] at hv
    simp only [stc, List.mem_cons, List.mem_append, List.mem_map, List.not_mem_nil, or_false] at hv
    rcases hv with rfl | ⟨x, _, rfl⟩ | ⟨x, _, rfl⟩ | rfl | rfl <;> rfl
  have hR74 : R[74]? = some (.int .i64 (txt.length : Nat)) := by rw [hR]; exact stc_all hwl hbl
  have hg : w.heap[a]? = some (.cells R 181 (0, 0)) := by rw [hR]; exact hst
  obtain ⟨Z, hZ⟩ : ∃ Z, Z = brow (List.replicate 32 0) := ⟨_, rfl⟩
  have hzh := zeroH
  rw [← hZ] at hzh
  have hZs : Z.size = 32 := by rw [hZ]; rfl
  obtain ⟨Y, hY⟩ : ∃ Y : Array Value, Y = (Value.bool false :: ((List.replicate 8 (0 : UInt32)).map wv ++ ((List.replicate 64 (0 : UInt8)).map bv ++ [.int .i64 0, .int .i64 0]))).toArray := ⟨_, rfl⟩
  have hys := zeroB64
  rw [← hY] at hys
  have hYs : Y.size = 75 := by rw [hY]; rfl
  have ht1 : 0 ≤ (txt.length : Int) := by omega
  have ht2 : (txt.length : Int) ≤ 1125899906842000 := by omega
  have HR := Lib.hid (And.intro hR (And.intro hRs hR1))
  have HG := Lib.hid hg
  have HZ := Lib.hid (And.intro hzh (And.intro hZs hZ))
  have HY := Lib.hid (And.intro hys hYs)
  have HST := Lib.hid (show Stands w a txt from ⟨bl, hbl, hrest, hst⟩)
  have HL := Lib.hid hlen
  clear hbl hrest hst hR hRs hR1 hg hZ hzh hZs hY hys hYs hlen hwl
  have hrow1 : (((w.alloc (.cells Z 71)).alloc (.cells Y 181)).setRow (w.heap.size + 1) R).heap[w.heap.size + 1]? = some (.cells R 181 (0, 0)) := by
    rw [heap_setRow_eq, heap_alloc_at] <;> simp [putRow]
  have hc74 := row_cell hrow1 hR74
  have HROW := Lib.hid hrow1
  clear hrow1
  go_enter Try.func113, Try.ntmps113
  go_wp2_with (first | ((with_reducible show wpList _ _ _ (⟨_, .alloc 71, _, _, _, _⟩ :: _) _ _); refine wpList_alloc_is rfl 71 rfl (.agg Z) HZ.out.1 ?_; dsimp only [Value.cells]; try simp only [World.size_alloc]))
  refine (none_no (a := a) ?_).mono ?_
  · exact (row_cell (row_alloc HG.out _) (by rw [HR.out.1]; exact stc_made))
  rintro e w1 ⟨rfl, rfl⟩
  go_wp2_with (first
    | ((with_reducible show wpList _ _ _ (⟨_, .alloc 181, _, _, _, _⟩ :: _) _ _); refine wpList_alloc_is rfl 181 rfl (.agg Y) HY.out.1 ?_; dsimp only [Value.cells]; try simp only [World.size_alloc])
    | ((with_reducible show wpList _ _ _ (⟨_, .load 181 _, _, _, _, _⟩ :: _) _ _); refine wpList_load_part rfl 181 _ rfl a 0 rfl (row_alloc HG.out _) Try.underlying181 rfl state_size (by rw [HR.out.2.1]; omega) R (by simp [← HR.out.2.1]) ?_)
    | ((with_reducible show wpList _ _ _ (⟨_, .store 181 _ _, _, _, _, _⟩ :: _) _ _); refine wpList_store_part rfl 181 _ _ rfl (w.heap.size + 1) 0 R rfl rfl (by rw [heap_alloc_at]; simp) (by rw [state_size, HR.out.2.1]) (by rw [HR.out.2.1, HY.out.2]; omega) HR.out.2.2 R (by rw [splice_all _ _ (by rw [Array.length_toList, Array.length_toList, HR.out.2.1, HY.out.2])]) ?_))
  have hst1 : Stands (((w.alloc (.cells Z 71)).alloc (.cells Y 181)).setRow (w.heap.size + 1) R) (w.heap.size + 1) txt := by
    obtain ⟨bl, h1, h2, h3⟩ := HST.out
    have e : R = stc (Sha.words txt) bl (txt.length % 64) txt.length := by
      have h4 := HG.out.symm.trans h3
      simp only [Option.some.injEq, Obj.cells.injEq] at h4
      exact h4.1
    exact ⟨bl, h1, h2, by unfold StAt; rw [← e]; exact HROW.out⟩
  have hz1 : (((w.alloc (.cells Z 71)).alloc (.cells Y 181)).setRow (w.heap.size + 1) R).heap[w.heap.size]? = some (.cells Z 71 (0, 0)) := by
    rw [heap_setRow_ne, heap_alloc_lt, heap_alloc_at] <;> simp
  have hch1 : Ch (fun _ => False) w (((w.alloc (.cells Z 71)).alloc (.cells Y 181)).setRow (w.heap.size + 1) R) := (((Ch.refl _ _).alloc _).alloc _).setRow (.inr (by omega)) _
  have hs1 : w.heap.size + 2 ≤ (((w.alloc (.cells Z 71)).alloc (.cells Y 181)).setRow (w.heap.size + 1) R).heap.size := by simp
  obtain ⟨w1, hw1⟩ : ∃ w1, w1 = ((w.alloc (.cells Z 71)).alloc (.cells Y 181)).setRow (w.heap.size + 1) R := ⟨_, rfl⟩
  have hsz1 : w1.heap.size = w.heap.size + 1 + 1 := by rw [hw1]; simp
  rw [← hw1] at hst1 hz1 hch1 ⊢
  have hb1 : Bytes (w1.alloc (.cells #[.int .u8 128] 5)) (.slice (some ⟨w.heap.size + 1 + 1, 0, none⟩) 1 1) [128] := by
    rw [← hsz1]
    exact Bytes.row (bs := [128]) (heap_alloc_new _ _) rfl (by unfold maxLen; omega)
  have hW1 := Write_ok (hst1.keep ((Ch.refl (fun _ => False) w1).alloc (.cells #[.int .u8 128] 5)) id) hb1 (fun _ k hk => by cases hk; simp) (by have := HL.out; simp; omega)
  refine hW1.mono ?_; rintro e w2 ⟨rfl, hst2, hc2⟩
  have hc12 : Ch (fun k => k = w.heap.size + 1) w1 w2 := ((Ch.refl (fun k => k = w.heap.size + 1) w1).alloc _).trans_same hc2
  have ZR := Lib.hid hz1
  have CH1 := Lib.hid hch1
  have S1 := Lib.hid hsz1
  have ST2 := Lib.hid hst2
  have C12 := Lib.hid hc12
  clear hst1 hz1 hch1 hs1 hw1 hsz1 hb1 hW1 hst2 hc2 hc12 hc74 c0 hR74
  go_wp2
  go_loopg [30] (Sha.zeros txt.length) (fun g s30 wr => ∃ j m : Nat, m = g ∧ j + m = Sha.zeros txt.length ∧ Stands wr (w.heap.size + 1) (txt ++ [128] ++ List.replicate j 0) ∧ Ch (fun k => k = w.heap.size + 1) w1 wr)
  case atStart => exact ⟨0, _, rfl, by omega, by simpa using ST2.out, C12.out⟩
  case round =>
    obtain ⟨j, m, rfl, hjm, hst, hch⟩ := hrel
    have hzl : Sha.zeros txt.length = (55 + 64 - txt.length % 64) % 64 := rfl
    obtain ⟨bl', q1, q2, q3⟩ := hst
    have hll : (txt ++ [128] ++ List.replicate j 0).length = txt.length + 1 + j := by simp; omega
    have c73 := row_cell q3 (stc_n (Sha.words_length _) q1)
    have hst : Stands wr (w.heap.size + 1) (txt ++ [128] ++ List.replicate j 0) := ⟨bl', q1, q2, q3⟩
    rw [hll] at c73
    by_cases hm : m = 0
    · have hn56 : (txt.length + 1 + j) % 64 = 56 := by omega
      rw [hn56] at c73
      have hj : j = Sha.zeros txt.length := by omega
      have STA := Lib.hid hst
      have CHA := Lib.hid hch
      have HJ := Lib.hid hj
      clear hm hjm hzl q1 q2 q3 hll hst hch hn56 hj
      have hhi := hi_is txt.length HL.out
      have hlo := lo_is txt.length HL.out
      have hl8 : Sha.len8 txt.length = Sha.be4 (UInt32.ofNat (txt.length * 8 / 4294967296)) ++ Sha.be4 (UInt32.ofNat (txt.length * 8)) := rfl
      generalize UInt32.ofNat (txt.length * 8 / 4294967296) = hi at hhi hl8
      generalize UInt32.ofNat (txt.length * 8) = lo at hlo hl8
      have whi : wrap64 (hi.toNat : Int) = (hi.toNat : Int) := by have := hi.toNat_lt; unfold wrap64; omega
      have wlo : wrap64 (lo.toNat : Int) = (lo.toNat : Int) := by have := lo.toNat_lt; unfold wrap64; omega
      have HL8 := Lib.hid hl8
      clear hl8
      go_wp2_with fail
      refine (Put32_ok hi _).mono ?_; rintro e w3 ⟨rfl, hw3⟩
      go_wp2_with fail
      refine (Put32_ok lo _).mono ?_; rintro e w4 ⟨rfl, hw4⟩
      go_wp2_with fail
      have hwr : w.heap.size + 1 < wr.heap.size := by have := CHA.out.size; have := S1.out; omega
      have hzb : Sha.zeros txt.length < 64 := Nat.mod_lt _ (by omega)
      have hl1 : (txt ++ [128] ++ List.replicate j 0).length ≤ 1125899906842100 := by have := HL.out; have := HJ.out; simp; omega
      obtain ⟨t1, ht1'⟩ : ∃ t1, t1 = txt ++ [128] ++ List.replicate j 0 := ⟨_, rfl⟩
      rw [← ht1'] at STA hl1
      have hbH : Bytes ((wr.alloc (.cells (brow (Sha.be4 hi)) 5)).alloc (.cells (brow (Sha.be4 lo)) 5)) (.slice (some ⟨wr.heap.size, 0, none⟩) 4 4) (Sha.be4 hi) := Bytes.row (row_alloc (heap_alloc_new _ _) _) rfl (by unfold maxLen; omega)
      have hbL : Bytes ((wr.alloc (.cells (brow (Sha.be4 hi)) 5)).alloc (.cells (brow (Sha.be4 lo)) 5)) (.slice (some ⟨wr.heap.size + 1, 0, none⟩) 4 4) (Sha.be4 lo) := by
        have := heap_alloc_new (wr.alloc (.cells (brow (Sha.be4 hi)) 5)) (.cells (brow (Sha.be4 lo)) 5)
        rw [World.size_alloc] at this
        exact Bytes.row this rfl (by unfold maxLen; omega)
      have hstW := STA.out.keep (((Ch.refl (fun _ => False) wr).alloc (.cells (brow (Sha.be4 hi)) 5)).alloc (.cells (brow (Sha.be4 lo)) 5)) id
      refine (Write_ok hstW hbH (fun _ k hk => by cases hk; simp; omega) (by simp [Sha.be4]; omega)).mono ?_; rintro e w5 ⟨rfl, hst5, hc5⟩
      have hbL5 := hbL.keep hc5 (fun k hk => by cases hk; simp; omega)
      have ST5 := Lib.hid hst5
      have BL5 := Lib.hid hbL5
      have C5 := Lib.hid hc5
      clear hst5 hbL5 hc5 hbH hbL hstW
      go_wp2_with fail
      refine (Write_ok ST5.out BL5.out (fun _ k hk => by cases hk; simp; omega) (by simp [Sha.be4]; omega)).mono ?_; rintro e w6 ⟨rfl, hst6, hc6⟩
      have hpad : t1 ++ Sha.be4 hi ++ Sha.be4 lo = Sha.pad txt := by
        rw [ht1', List.append_assoc _ (Sha.be4 hi), ← HL8.out, HJ.out]; rfl
      rw [hpad] at hst6
      have hch6 : Ch (fun k => k = w.heap.size + 1) w1 w6 := ((CHA.out.trans_same (((Ch.refl (fun k => k = w.heap.size + 1) wr).alloc _).alloc _)).trans_same C5.out).trans_same hc6
      have hz6 := hch6.row ZR.out (by omega)
      have hw6 : Ch (fun _ => False) w w6 := CH1.out.trans hch6 (fun k hk => .inr (by omega))
      obtain ⟨bl6, q1, q2, q3⟩ := hst6
      obtain ⟨R6, hR6⟩ : ∃ R6, R6 = stc (Sha.words (Sha.pad txt)) bl6 ((Sha.pad txt).length % 64) (Sha.pad txt).length := ⟨_, rfl⟩
      have hwl6 := Sha.words_length (Sha.pad txt)
      have hR6s : R6.size = 75 := by rw [hR6]; exact stc_size hwl6 q1
      have hR6h : R6.extract 1 (1 + 8) = wrow (Sha.words (Sha.pad txt)) := by rw [hR6]; exact stc_h hwl6 q1
      have hg6 : w6.heap[w.heap.size + 1]? = some (.cells R6 181 (0, 0)) := by rw [hR6]; exact q3
      have hsum : Sha.sum txt = (Sha.words (Sha.pad txt)).flatMap Sha.be4 := rfl
      obtain ⟨V, hV⟩ : ∃ V, V = Sha.words (Sha.pad txt) := ⟨_, rfl⟩
      rw [← hV] at hwl6 hR6h hsum
      have hl6 := row_lt hg6
      have G6 := Lib.hid (And.intro hg6 (And.intro hR6s hR6h))
      have Z6 := Lib.hid hz6
      have W6 := Lib.hid hw6
      have VV := Lib.hid (And.intro hwl6 hsum)
      have hix : ∀ (i : Nat) (w0 : World), i < 8 → (Instr.index 177 (.agg (wrow V)) (.int .i64 (i : Int))).run Try.prog w0 = .ok (wv (V.getD i 0)) w0 := fun i w0 hi => run_index_word V hwl6 i hi w0
      have IX := Lib.hid hix
      clear hpad hch6 hz6 hw6 q1 q2 q3 hR6 hwl6 hR6s hR6h hg6 hV hsum hix hhi hlo whi wlo c73
      go_wp2_with (first
        | ((with_reducible show wpList _ _ _ (⟨_, .alloc 71, _, _, _, _⟩ :: _) _ _); refine wpList_alloc_is rfl 71 rfl (.agg Z) HZ.out.1 ?_; dsimp only [Value.cells]; try simp only [World.size_alloc])
        | ((with_reducible show wpList _ _ _ (⟨_, .load 177 _, _, _, _, _⟩ :: _) _ _); refine wpList_load_part rfl 177 _ rfl (w.heap.size + 1) 1 rfl (row_alloc G6.out.1 _) Try.underlying177 rfl size8 (by rw [G6.out.2.1]; omega) _ G6.out.2.2 ?_))
      obtain ⟨wo, hwo⟩ : ∃ wo : World, wo = wr := ⟨_, rfl⟩
      subst hwo
      go_loopg [51] 8 (fun g s51 wr => ∃ i : Nat, i ≤ 8 ∧ g = 8 - i ∧ s51 = .int .i64 i ∧ wr.heap[w6.heap.size]? = some (.cells (brow (outs V i)) 71 (0, 0)) ∧ wr.heap[w.heap.size]? = some (.cells Z 71 (0, 0)) ∧ Ch (fun _ => False) w wr)
      case atStart =>
        refine ⟨0, Nat.zero_le _, rfl, rfl, ?_, row_alloc Z6.out _, W6.out.alloc _⟩
        rw [heap_alloc_new, show outs V 0 = List.replicate 32 0 from rfl, ← HZ.out.2.2]
      case round =>
        obtain ⟨i, hi, rfl, rfl, ho, hz, hch⟩ := hrel
        have hw6s := W6.out.size
        by_cases hil : i < 8
        · have hos := outs_succ VV.out.1 hil
          have hol := outs_length VV.out.1 hi
          have hixi := fun w0 => IX.out i w0 hil
          generalize V.getD i 0 = x at hos hixi
          have hx1 : 0 ≤ (x.toNat : Int) := by omega
          have hx2 : wrap64 (x.toNat : Int) = (x.toNat : Int) := by have := x.toNat_lt; unfold wrap64; omega
          have hi1 : (i : Int) ≤ 7 := by omega
          have hi2 : (i : Int) < 8 := by omega
          have hi3 : i ≤ 7 := by omega
          have hsl : ∀ w0 : World, (Instr.sliceAt 71 (.pointer (some ⟨w6.heap.size, 0, none⟩)) (some (.int .i64 (4 * (i : Int)))) none none).run Try.prog w0 = .ok (.slice (some ⟨w6.heap.size, 4 * i, none⟩) (32 - 4 * i) (32 - 4 * i)) w0 := fun w0 => by
            have := run_arr_l (P := Try.prog) w0 71 32 (by kernel_rfl) (by kernel_rfl) (by kernel_rfl) w6.heap.size 0 (4 * i) .i64 (by omega)
            rw [Nat.zero_add] at this
            exact this
          have OS := Lib.hid (And.intro hos hol)
          have HO := Lib.hid ho
          have HZ2 := Lib.hid hz
          have HC2 := Lib.hid hch
          have hlt := row_lt ho
          clear hos hol ho hz hch
          go_wp2_with fail
          refine (Put32_ok x _).mono ?_; rintro e w7 ⟨rfl, hw7⟩
          have hnew : ((brow (outs V i)).toList.take (4 * i) ++ ((Sha.be4 x).map bv ++ (brow (outs V i)).toList.drop (4 * i + 4))).toArray = brow (outs V (i + 1)) := by
            rw [← OS.out.1]
            simp [brow]
          have hsrc : ∀ j v, ((Sha.be4 x).map bv)[j]? = some v → (wr.alloc (.cells (brow (Sha.be4 x)) 5)).cell? ((⟨wr.heap.size, 0, none⟩ : Addr).add j) = some v := fun j v hv => by
            rw [add_plain, Nat.zero_add]
            exact row_cell (heap_alloc_new _ _) (by simpa [brow] using hv)
          have NW := Lib.hid hnew
          have SRC := Lib.hid hsrc
          clear hnew hsrc
          go_wp2_with (first
            | ((with_reducible show wpList _ _ _ (⟨_, .call _, _, _, _, _⟩ :: _) _ _); go_must (refine wpList_copy_into rfl _ _ 75 75 rfl 5 Try.underlying75 (by kernel_rfl) w6.heap.size (4 * i) (32 - 4 * i) (32 - 4 * i) ⟨wr.heap.size, 0, none⟩ 4 4 rfl rfl (brow (outs V i)) _ (row_alloc HO.out _) ((Sha.be4 x).map bv) 4 rfl (Nat.min_eq_left (by omega)).symm SRC.out (by rw [brow_size, OS.out.2]; omega) (map_bv_one _) _ NW.out ?_)))
          go_roundg (8 - (i + 1))
          case measure => omega
          case rel =>
            refine ⟨i + 1, by omega, rfl, by go_num, row_setRow_same (row_alloc HO.out _) _, row_setRow (row_alloc HZ2.out _) (by omega) _, (HC2.out.alloc _).setRow (.inr (by omega)) _⟩
        · have h8 : i = 8 := by omega
          have hd : decide ((i : Int) < 8) = false := by simp; omega
          rw [h8, outs_full VV.out.1, ← VV.out.2] at ho
          obtain ⟨O, hO⟩ : ∃ O, O = brow (Sha.sum txt) := ⟨_, rfl⟩
          have hos : O.size = 32 := by rw [hO, brow_size, VV.out.2, flat4_length, VV.out.1]
          have ho1 := brow_one (Sha.sum txt)
          rw [← hO] at ho ho1
          have HO := Lib.hid (And.intro ho (And.intro hos ho1))
          have HO' := Lib.hid hO
          have HZ2 := Lib.hid hz
          have HC2 := Lib.hid hch
          clear ho hos ho1 hO hz hch hil h8
          go_wp2_with (first
            | ((with_reducible show wpList _ _ _ (⟨_, .load 71 _, _, _, _, _⟩ :: _) _ _); refine wpList_load_part rfl 71 _ rfl w6.heap.size 0 rfl HO.out.1 Try.underlying71 rfl sizeH (by rw [HO.out.2.1]; omega) O (by simp [← HO.out.2.1]) ?_)
            | ((with_reducible show wpList _ _ _ (⟨_, .store 71 _ _, _, _, _, _⟩ :: _) _ _); refine wpList_store_part rfl 71 _ _ rfl w.heap.size 0 O rfl rfl HZ2.out (by rw [sizeH, HO.out.2.1]) (by rw [HO.out.2.1, HZ.out.2.1]; omega) HO.out.2.2 O (by rw [splice_all _ _ (by rw [Array.length_toList, Array.length_toList, HO.out.2.1, HZ.out.2.1])]) ?_))
          exact bodyPost_ret_cell1 (p := 2) rfl rfl (row_setRow_same HZ2.out _) Try.underlying71 rfl (by rw [sizeH, HO.out.2.1]) rfl ⟨by rw [HO'.out], HC2.out.setRow (.inr (Nat.le_refl _)) _⟩
    · obtain ⟨n, hn⟩ : ∃ n, n = (txt.length + 1 + j) % 64 := ⟨_, rfl⟩
      have hn56 : n ≠ 56 := by omega
      have hnb : ((n : Int) == 56) = false := by simp; omega
      have hnb' : ((n : Int) != 56) = true := by simp; omega
      rw [← hn] at c73
      have STA := Lib.hid hst
      have CHA := Lib.hid hch
      have HJM := Lib.hid (And.intro hjm hm)
      clear hm hjm hzl q1 q2 q3 hll hst hch hn56 hn
      go_wp2_with fail
      have hb2 : Bytes (wr.alloc (.cells #[.int .u8 0] 5)) (.slice (some ⟨wr.heap.size, 0, none⟩) 1 1) [0] := Bytes.row (bs := [0]) (heap_alloc_new _ _) rfl (by unfold maxLen; omega)
      have hwr : w.heap.size + 1 < wr.heap.size := by have := CHA.out.size; have := S1.out; omega
      refine (Write_ok (STA.out.keep ((Ch.refl (fun _ => False) wr).alloc (.cells #[.int .u8 0] 5)) id) hb2 (fun _ k hk => by cases hk; simp; omega) (by have := HL.out; have := HJM.out.1; have hz : Sha.zeros txt.length < 64 := Nat.mod_lt _ (by omega); simp; omega)).mono ?_; rintro e w3 ⟨rfl, hst3, hc3⟩
      have ST3 := Lib.hid hst3
      have C3 := Lib.hid hc3
      clear hst3 hc3 hb2
      go_wp2
      go_roundg (m - 1)
      case measure => have := HJM.out.2; omega
      case rel =>
        have h1 := HJM.out.1
        have h2 := HJM.out.2
        refine ⟨j + 1, m - 1, rfl, by omega, ?_, CHA.out.trans_same (((Ch.refl (fun k => k = w.heap.size + 1) wr).alloc _).trans_same C3.out)⟩
        have := ST3.out
        rw [List.append_assoc, ← List.replicate_succ'] at this
        exact this

end Go.Proofs.Ytdgdpbmaalcedaa.ShaW

/- The contracts of path: Bit, Common, First. -/
import Derived.Test.YtdgdpbmaalcedaaPath
import Derived.Test.YtdgdpbmaalcedaaPlan
import Derived.Test.YtdgdpbmaalcedaaProg
import Derived.Deep.QuietTactic
import Derived.BigQuiet
import Derived.StillTailTactics
import Derived.Lib.Hide
import Derived.IntWalk
import Derived.Deep.LoopGhost
import Derived.Deep.DeepMust
namespace Go.Proofs.Ytdgdpbmaalcedaa.Path
open Go Go.RowKit Go.Proofs.Ytdgdpbmaalcedaa
set_option maxHeartbeats 1600000
set_option linter.unusedVariables false

theorem mask_ok (d : Nat) (hd : d < 256) (w : World) : Calls Try.prog 131 #[.int .i64 (d : Int)] w fun e w' => e = .returned (.int .u8 (mask (d % 8) : Nat)) ∧ w' = w := by
  have h0 : (0 : Int) ≤ (d : Int) := by omega
  have h1 : (d : Int) < 256 := by omega
  have h8 : d % 8 = 0 ∨ d % 8 = 1 ∨ d % 8 = 2 ∨ d % 8 = 3 ∨ d % 8 = 4 ∨ d % 8 = 5 ∨ d % 8 = 6 ∨ d % 8 = 7 := by omega
  rcases h8 with h | h | h | h | h | h | h | h
  all_goals
    have hi := congrArg (fun n : Nat => (n : Int)) h
    simp only [Int.natCast_emod] at hi
    have H := Lib.hid h
    clear h
    go_enter Try.func131, Try.ntmps131
    go_wp2
    go_ret
    exact ⟨by rw [H.out]; rfl, rfl⟩

theorem cell_q {w wq : World} {n : Nat} (h : wq = w.drewN n) {p : Addr} {v : Value} (hc : w.cell? p = some v) : wq.cell? p = some v := by subst h; exact hc

theorem Bit_out (K : Array Value) (d : Int) (hd : d < 0 ∨ 256 ≤ d) (w : World) : Calls Try.prog 122 #[.agg K, .int .i64 d] w fun e w' => e = .returned (.int .i64 (-1)) ∧ Ch (fun _ => False) w w' := by
  by_cases h0 : d < 0
  · clear hd
    go_enter Try.func122, Try.ntmps122
    go_wp2
    go_ret
    exact ⟨rfl, (Ch.refl _ _).alloc _⟩
  · have h1 : 256 ≤ d := by omega
    have h2 : 0 ≤ d := by omega
    clear hd h0
    go_enter Try.func122, Try.ntmps122
    go_wp2
    go_ret
    exact ⟨rfl, (Ch.refl _ _).alloc _⟩

set_option maxRecDepth 100000 in
theorem Bit_in (k : List UInt8) (hk : k.length = 32) (d : Nat) (hd : d < 256) (w : World) : Calls Try.prog 122 #[.agg (brow k), .int .i64 (d : Int)] w fun e w' => e = .returned (.int .i64 (kbit k d : Nat)) ∧ Ch (fun _ => False) w w' := by
  have hx := brow_get (l := k) (i := d / 8) (by omega)
  have hkb : kbit k d = bbit (k.getD (d / 8) 0) (d % 8) := rfl
  generalize k.getD (d / 8) 0 = x at hx hkb
  obtain ⟨K, hK⟩ : ∃ K, K = brow k := ⟨_, rfl⟩
  rw [← hK] at hx ⊢
  have hm := bbit_mask x (d % 8) (by omega)
  have ha := u8_and_nat x.toNat (mask (d % 8)) x.toNat_lt (by unfold mask; have : 128 / 2 ^ (d % 8) ≤ 128 := Nat.div_le_self _ _; omega)
  have h0 : (0 : Int) ≤ (d : Int) := by omega
  have h1 : (d : Int) < 256 := by omega
  have h2 : ¬ (256 : Int) ≤ (d : Int) := by omega
  have n1 : (0 : Int) ≤ (d : Int) / 8 := by omega
  have n2 : (d : Int) / 8 < 32 := by omega
  have n3 : ((d : Int) / 8).toNat = d / 8 := by omega
  have hMK := Lib.hid (mask_ok d hd)
  have c0 : (w.alloc (.cells K 66)).cell? ⟨w.heap.size, d / 8, none⟩ = some (bv x) := row_cell (heap_alloc_new _ _) hx
  rcases bbit_cases x (d % 8) with hb | hb
  · have hz := hm.2 hb
    rw [hz] at ha
    have hr : kbit k d = 0 := by rw [hkb, hb]
    have HR := Lib.hid hr
    clear hr hb hz hm hkb hx hK
    generalize mask (d % 8) = m at ha hMK
    go_enter Try.func122, Try.ntmps122
    go_wp2
    go_quiet ((go_at_call 131; exact Calls.quiet_of_same (hMK.out _)))
    go_wp2
    go_ret
    exact ⟨by rw [HR.out]; rfl, ((Ch.refl _ _).alloc _).drewN _⟩
  · have hz : x.toNat &&& mask (d % 8) ≠ 0 := fun h => by have := hm.1 h; omega
    have hr : kbit k d = 1 := by rw [hkb, hb]
    have HR := Lib.hid hr
    obtain ⟨y, hy⟩ : ∃ y, y = x.toNat &&& mask (d % 8) := ⟨_, rfl⟩
    rw [← hy] at ha hz
    have hyb : ((y : Int) != 0) = true := by simp; omega
    have hyb' : ((y : Int) == 0) = false := by simp; omega
    clear hr hb hz hm hkb hx hK hy
    generalize mask (d % 8) = m at ha hMK
    go_enter Try.func122, Try.ntmps122
    go_wp2
    go_quiet ((go_at_call 131; exact Calls.quiet_of_same (hMK.out _)))
    go_wp2
    go_ret
    exact ⟨by rw [HR.out]; rfl, ((Ch.refl _ _).alloc _).drewN _⟩

theorem Bit_ok (k : List UInt8) (hk : k.length = 32) (d : Int) (w : World) : Calls Try.prog 122 #[.agg (brow k), .int .i64 d] w fun e w' => e = .returned (.int .i64 (bit k d)) ∧ Ch (fun _ => False) w w' := by
  by_cases h : 0 ≤ d ∧ d < 256
  · obtain ⟨n, rfl⟩ := Int.eq_ofNat_of_zero_le h.1
    rw [bit_in (by omega)]
    exact Bit_in k hk n (by omega) w
  · have : bit k d = -1 := by unfold bit; rw [if_neg h]
    rw [this]
    exact Bit_out _ d (by omega) w

/-- Keys and digests are compared. -/
theorem eql_keys (t : TypeId) (ht : Try.prog.underlying t = some (.array 32 5)) (a b : List UInt8) (ha : a.length = 32) (hb : b.length = 32) (w : World) :
    (Go.binOp BinOp.eql t (.agg (brow a)) (.agg (brow b))).run Try.prog w = .ok (.bool (decide (a = b))) w := by
  obtain ⟨i, hi⟩ : ∃ i, Try.prog.info? 5 = some i := Option.isSome_iff_exists.1 (by kernel_rfl)
  rw [run_eql_struct, run_equal_bytes w t 5 32 .u8 i ht hi (by kernel_rfl) (by kernel_rfl) Try.underlying5 9998 a b ha hb]
  rfl
theorem neq_keys (t : TypeId) (ht : Try.prog.underlying t = some (.array 32 5)) (a b : List UInt8) (ha : a.length = 32) (hb : b.length = 32) (w : World) :
    (Go.binOp BinOp.neq t (.agg (brow a)) (.agg (brow b))).run Try.prog w = .ok (.bool (!decide (a = b))) w := by
  obtain ⟨i, hi⟩ : ∃ i, Try.prog.info? 5 = some i := Option.isSome_iff_exists.1 (by kernel_rfl)
  rw [run_neq_struct, run_equal_bytes w t 5 32 .u8 i ht hi (by kernel_rfl) (by kernel_rfl) Try.underlying5 9998 a b ha hb]
  rfl
theorem sizeP : (Try.prog.info? 66).map (·.size) = some 32 := by kernel_rfl
theorem zeroP : (Try.prog.info? 66).bind (·.zero) = some (.agg (brow (List.replicate 32 0))) := by kernel_rfl

theorem wpList_index_str {P : Program} {w : World} {ops : Array Oper} {rest : List Oper} {o : Oper} {a : Act} {Q : Exit → Act → World → Prop} (hgd : o.guard = none) (t : TypeId) (x y : Operand) (ho : o.op = .index t x y) (ht : P.underlying t = some .string)
    (s : ByteArray) (hx : a.eval x = .string s) (i : Nat) (k : IntKind) (hy : a.eval y = .int k (i : Int)) (c : UInt8) (hc : s.data[i]? = some c)
    (h : wpList P ops Q rest (a.put o.dst (bv c)) w) : wpList P ops Q (o :: rest) a w :=
  wpList_plain hgd fun _ hK => by
    have hi : i < s.size := (Array.getElem?_eq_some_iff.1 hc).1
    unfold Oper.wp execOp
    simp only [ho, hx, hy]
    rw [Sem.run_bind, run_index_string w t s k (i : Int) ht, dif_pos (by omega)]
    have he : s[(i : Int).toNat]'(by omega) = c := (Array.getElem?_eq_some_iff.1 hc).2
    simp only [Result.andThen_ok, he]
    exact hK _ _ h
theorem tab_get (s : ByteArray) (h : (List.range 256).all (fun i => s.data[i]? == some (UInt8.ofNat (8 - lead (UInt8.ofNat i)))) = true) (x : UInt8) : s.data[x.toNat]? = some (UInt8.ofNat (8 - lead x)) := by
  have := List.all_eq_true.1 h x.toNat (List.mem_range.2 x.toNat_lt)
  simp at this
  simpa using this
theorem lead_le (x : UInt8) : lead x ≤ 8 := by unfold lead; split <;> omega

theorem Len8_ok (x : UInt8) (w : World) : Calls Try.prog 130 #[bv x] w fun e w' => e = .returned (.int .i64 (8 - lead x : Nat)) ∧ w = w' := by
  have hl := lead_le x
  have h8 : (UInt8.ofNat (8 - lead x)).toNat = 8 - lead x := by rw [UInt8.toNat_ofNat']; omega
  have H8 := Lib.hid h8
  clear h8
  go_enter Try.func130, Try.ntmps130
  go_wp2_with (first
    | ((with_reducible show wpList _ _ _ (⟨_, .index 9 _ _, _, _, _, _⟩ :: _) _ _); go_must (refine wpList_index_str rfl 9 _ _ rfl Try.underlying9 _ rfl x.toNat .u8 rfl _ (tab_get _ (by kernel_rfl) x) ?_)))
  go_ret
  exact ⟨congrArg (fun z => Ending.returned (.int .i64 z)) (by omega), rfl⟩
theorem Lead8_ok (x : UInt8) (w : World) : Calls Try.prog 119 #[bv x] w fun e w' => e = .returned (.int .i64 (lead x : Nat)) ∧ w = w' := by
  have hl := lead_le x
  go_enter Try.func119, Try.ntmps119
  go_wp2_with fail
  refine (Len8_ok x _).mono ?_; rintro e w1 ⟨rfl, rfl⟩
  go_wp2
  go_ret
  exact ⟨congrArg (fun z => Ending.returned (.int .i64 z)) (by omega), rfl⟩

theorem xor_byte (x y : UInt8) : bits .xor .u8 (x.toNat : Int) (y.toNat : Int) = ((x ^^^ y).toNat : Int) := by
  rw [u8_xor_nat _ _ x.toNat_lt y.toNat_lt, UInt8.toNat_xor]
theorem xor_zero (x y : UInt8) : (x ^^^ y).toNat = 0 ↔ x = y := by
  constructor
  · intro h
    have h0 : x ^^^ y = 0 := UInt8.toNat_inj.1 h
    exact UInt8.xor_eq_zero_iff.1 h0
  · rintro rfl; simp

set_option maxRecDepth 100000 in
theorem Common_ok (a b : List UInt8) (ha : a.length = 32) (hb : b.length = 32) (w : World) :
    Calls Try.prog 99 #[.agg (brow a), .agg (brow b)] w fun e w' => e = .returned (.int .i64 (common a b : Nat)) ∧ Ch (fun _ => False) w w' := by
  have heq := eql_keys 66 Try.underlying66 a b ha hb
  obtain ⟨A, hA⟩ : ∃ A, A = brow a := ⟨_, rfl⟩
  obtain ⟨B, hB⟩ : ∃ B, B = brow b := ⟨_, rfl⟩
  have hAs : A.size = 32 := by rw [hA, brow_size, ha]
  have hBs : B.size = 32 := by rw [hB, brow_size, hb]
  rw [← hA, ← hB] at heq ⊢
  have g1 : ((w.alloc (.cells A 66)).alloc (.cells B 66)).heap[w.heap.size]? = some (.cells A 66 (0, 0)) := row_alloc (heap_alloc_new _ _) _
  have g2 : ((w.alloc (.cells A 66)).alloc (.cells B 66)).heap[w.heap.size + 1]? = some (.cells B 66 (0, 0)) := by
    have := heap_alloc_new (w.alloc (.cells A 66)) (.cells B 66)
    simpa using this
  have HA := Lib.hid (And.intro hA hAs)
  have HB := Lib.hid (And.intro hB hBs)
  have G1 := Lib.hid g1
  have G2 := Lib.hid g2
  have HLA := Lib.hid (And.intro ha hb)
  clear hA hB hAs hBs g1 g2 ha hb
  by_cases hab : a = b
  · have hc : common a b = 256 := by rw [← hab, common_self, HLA.out.1]
    have hd : ∀ w0, (Go.binOp BinOp.eql 66 (.agg A) (.agg B)).run Try.prog w0 = .ok (.bool true) w0 := fun w0 => by rw [heq w0, decide_eq_true hab]
    have HC := Lib.hid hc
    clear hc hab heq
    go_enter Try.func99, Try.ntmps99
    go_wp2_with (first
      | ((with_reducible show wpList _ _ _ (⟨_, .load 66 _, _, _, _, _⟩ :: _) _ _); refine wpList_load_part rfl 66 _ rfl w.heap.size 0 rfl G1.out Try.underlying66 rfl sizeP (by rw [HA.out.2]; omega) A (by simp [← HA.out.2]) ?_)
      | ((with_reducible show wpList _ _ _ (⟨_, .load 66 _, _, _, _, _⟩ :: _) _ _); refine wpList_load_part rfl 66 _ rfl (w.heap.size + 1) 0 rfl G2.out Try.underlying66 rfl sizeP (by rw [HB.out.2]; omega) B (by simp [← HB.out.2]) ?_))
    go_ret
    exact ⟨by rw [HC.out]; rfl, ((Ch.refl _ _).alloc _).alloc _⟩
  · have hd : ∀ w0, (Go.binOp BinOp.eql 66 (.agg A) (.agg B)).run Try.prog w0 = .ok (.bool false) w0 := fun w0 => by rw [heq w0, decide_eq_false hab]
    have HAB := Lib.hid hab
    clear hab heq
    go_enter Try.func99, Try.ntmps99
    go_wp2_with (first
      | ((with_reducible show wpList _ _ _ (⟨_, .load 66 _, _, _, _, _⟩ :: _) _ _); refine wpList_load_part rfl 66 _ rfl w.heap.size 0 rfl G1.out Try.underlying66 rfl sizeP (by rw [HA.out.2]; omega) A (by simp [← HA.out.2]) ?_)
      | ((with_reducible show wpList _ _ _ (⟨_, .load 66 _, _, _, _, _⟩ :: _) _ _); refine wpList_load_part rfl 66 _ rfl (w.heap.size + 1) 0 rfl G2.out Try.underlying66 rfl sizeP (by rw [HB.out.2]; omega) B (by simp [← HB.out.2]) ?_))
    clear hd
    go_loopg [10] 32 (fun g s10 wr => ∃ i : Nat, i ≤ 32 ∧ g = 32 - i ∧ s10 = .int .i64 i ∧ a.take i = b.take i ∧ wr.heap[w.heap.size]? = some (.cells A 66 (0, 0)) ∧ wr.heap[w.heap.size + 1]? = some (.cells B 66 (0, 0)) ∧ Ch (fun _ => False) w wr)
    case atStart => exact ⟨0, Nat.zero_le _, rfl, rfl, rfl, G1.out, G2.out, ((Ch.refl _ _).alloc _).alloc _⟩
    case round =>
      obtain ⟨i, hi, rfl, rfl, htk, h1, h2, hch⟩ := hrel
      by_cases hil : i < 32
      · have c1 := row_cell h1 (show A[i]? = some (bv (a.getD i 0)) by rw [HA.out.1]; exact brow_get (by rw [HLA.out.1]; exact hil))
        have c2 := row_cell h2 (show B[i]? = some (bv (b.getD i 0)) by rw [HB.out.1]; exact brow_get (by rw [HLA.out.2]; exact hil))
        have ea : a[i]? = some (a.getD i 0) := by simp [show i < a.length by rw [HLA.out.1]; exact hil]
        have eb : b[i]? = some (b.getD i 0) := by simp [show i < b.length by rw [HLA.out.2]; exact hil]
        generalize a.getD i 0 = x at c1 ea
        generalize b.getD i 0 = y at c2 eb
        have hx := xor_byte x y
        have hx0 := xor_zero x y
        have hi1 : (i : Int) < 32 := by omega
        have hi2 : (i : Int) ≤ 31 := by omega
        have hi3 : i ≤ 31 := by omega
        by_cases hxy : x = y
        · have hz : ((x ^^^ y).toNat : Int) = 0 := by rw [hx0.2 hxy]; rfl
          rw [hz] at hx
          have HT := Lib.hid (show a.take (i + 1) = b.take (i + 1) by rw [List.take_add_one, List.take_add_one, htk, ea, eb, hxy])
          have H1 := Lib.hid h1
          have H2 := Lib.hid h2
          have HC := Lib.hid hch
          clear htk ea eb hx0 hxy hz h1 h2 hch
          go_wp2
          go_quiet (fail)
          go_wp2
          go_roundg (32 - (i + 1))
          case measure => omega
          case rel => exact ⟨i + 1, by omega, rfl, by go_num, HT.out, H1.out, H2.out, HC.out.drewN _⟩
        · have hcm := common_at a b i x y htk ea eb hxy
          have hll := lead_le (x ^^^ y)
          have hnz : (x ^^^ y).toNat ≠ 0 := fun h => hxy (hx0.1 h)
          generalize x ^^^ y = z at hx hcm hnz hll
          have hzb : ((z.toNat : Int) != 0) = true := by simp; omega
          have hzb' : ((z.toNat : Int) == 0) = false := by simp; omega
          have HCM := Lib.hid hcm
          have HC := Lib.hid hch
          clear htk ea eb hx0 hxy hcm hnz h1 h2 hch
          go_wp2
          go_quiet (fail)
          go_wp2_with fail
          refine (Lead8_ok z _).mono ?_; rintro e w1 ⟨rfl, rfl⟩
          go_wp2
          go_ret
          exact ⟨by rw [HCM.out]; rfl, HC.out.drewN _⟩
      · have h32 : i = 32 := by omega
        rw [h32, List.take_of_length_le (by rw [HLA.out.1]; exact Nat.le_refl _), List.take_of_length_le (by rw [HLA.out.2]; exact Nat.le_refl _)] at htk
        exact absurd htk HAB.out

end Go.Proofs.Ytdgdpbmaalcedaa.Path

/- The contract of sha.Step: the block step. -/
import Derived.Test.YtdgdpbmaalcedaaShaS
import Derived.Deep.DeepMust
namespace Go.Proofs.Ytdgdpbmaalcedaa.ShaW
open Go Go.RowKit Go.Proofs.Ytdgdpbmaalcedaa
set_option maxHeartbeats 1000000
set_option linter.unusedVariables false

/-! words under names of their own, that the walk does not open -/
def wx (x y : UInt32) : UInt32 := x ^^^ y
def wn (x y : UInt32) : UInt32 := x &&& y
def wa (x y : UInt32) : UInt32 := x + y
def wc (x : UInt32) : UInt32 := ~~~ x
@[go_sem] theorem wx_is (x y : UInt32) : bits .xor .u32 (x.toNat : Int) (y.toNat : Int) = ((wx x y).toNat : Int) := xor_u x y
@[go_sem] theorem wn_is (x y : UInt32) : bits .and .u32 (x.toNat : Int) (y.toNat : Int) = ((wn x y).toNat : Int) := and_u x y
@[go_sem] theorem wa_is (x y : UInt32) : IntKind.u32.wrap ((x.toNat : Int) + (y.toNat : Int)) = ((wa x y).toNat : Int) := (addw x y).1
@[go_sem] theorem wa_is' (x y : UInt32) : ((x.toNat : Int) + (y.toNat : Int)) % (4294967296 : Int) = ((wa x y).toNat : Int) := (addw x y).2
@[go_sem] theorem wc_is (x : UInt32) : bits .xor .u32 (4294967295 : Int) (x.toNat : Int) = ((wc x).toNat : Int) := not_u x

@[go_sem] theorem wc_is' (x : UInt32) : bits .xor .u32 IntKind.u32.max (x.toNat : Int) = ((wc x).toNat : Int) := not_u x

theorem sum4 (a b c d : UInt32) : ((a.toNat : Int) + (b.toNat : Int) + (c.toNat : Int) + (d.toNat : Int)) % (4294967296 : Int) = ((wa (wa (wa a b) c) d).toNat : Int) := by
  simp only [wa, UInt32.toNat_add]; omega
theorem sum5 (a b c d e : UInt32) : ((a.toNat : Int) + (b.toNat : Int) + (c.toNat : Int) + (d.toNat : Int) + (e.toNat : Int)) % (4294967296 : Int) = ((wa (wa (wa (wa a b) c) d) e).toNat : Int) := by
  simp only [wa, UInt32.toNat_add]; omega
theorem sum5' (a b c d e : UInt32) : ((e.toNat : Int) + ((a.toNat : Int) + (b.toNat : Int) + (c.toNat : Int) + (d.toNat : Int))) % (4294967296 : Int) = ((wa e (wa (wa (wa a b) c) d)).toNat : Int) := by
  simp only [wa, UInt32.toNat_add]; omega
/-- A row to which the first i of another are added. -/
def added (h v : List UInt32) (i : Nat) : List UInt32 := (List.zipWith (· + ·) h v).take i ++ h.drop i
theorem added_length (h v : List UInt32) (i : Nat) (hv : v.length = h.length) (hi : i ≤ h.length) : (added h v i).length = h.length := by simp [added]; omega
theorem added_get (h v : List UInt32) (i : Nat) (hv : v.length = h.length) (hi : i < h.length) : (added h v i).getD i 0 = h.getD i 0 := by
  have hl : ((List.zipWith (· + ·) h v).take i).length = i := by simp; omega
  simp only [List.getD_eq_getElem?_getD, added]
  rw [List.getElem?_append_right (by omega), hl, List.getElem?_drop]
  simp
theorem added_succ (h v : List UInt32) (i : Nat) (hv : v.length = h.length) (hi : i < h.length) : added h v (i + 1) = (added h v i).set i (h.getD i 0 + v.getD i 0) := by
  have hl : ((List.zipWith (· + ·) h v).take i).length = i := by simp; omega
  unfold added
  rw [List.set_append_right _ _ (by omega), hl, Nat.sub_self, List.take_add_one, List.drop_eq_getElem_cons hi]
  have hz : (List.zipWith (· + ·) h v)[i]? = some (h.getD i 0 + v.getD i 0) := by
    simp [List.getElem?_zipWith, hi, show i < v.length by omega]
  rw [hz, List.set_cons_zero, Option.toList_some, List.append_assoc, List.singleton_append]
theorem added_all (h v : List UInt32) (hv : v.length = h.length) : added h v h.length = List.zipWith (· + ·) h v := by
  unfold added
  rw [List.drop_eq_nil_of_le (Nat.le_refl _), List.append_nil, List.take_of_length_le (by simp; omega)]
theorem wrow_set (l : List UInt32) (i : Nat) (x : UInt32) : (wrow l).setIfInBounds i (wv x) = wrow (l.set i x) := by
  apply Array.ext'
  simp [wrow, List.map_set]

theorem cell_q {w wq : World} {n : Nat} (h : wq = w.drewN n) {p : Addr} {v : Value} (hc : w.cell? p = some v) : wq.cell? p = some v := by subst h; exact hc
theorem size8 : (Try.prog.info? 177).map (·.size) = some 8 := by kernel_rfl
theorem sizeb64 : (Try.prog.info? 179).map (·.size) = some 64 := by kernel_rfl
theorem zero8 : (Try.prog.info? 177).bind (·.zero) = some (.agg (zeroW 8)) := by kernel_rfl

theorem wrow_get {l : List UInt32} {i : Nat} (h : i < l.length) : (wrow l)[i]? = some (wv (l.getD i 0)) := by
  simp [wrow, h]

theorem right_any (x : UInt32) (n : Int) (w : World) (h : n = 2 ∨ n = 6 ∨ n = 11 ∨ n = 13 ∨ n = 22 ∨ n = 25) : Calls Try.prog 134 #[wv x, .int .i64 n] w fun e w' => e = .returned (wv (rotr x n.toNat)) ∧ w' = w := by
  rcases h with rfl | rfl | rfl | rfl | rfl | rfl
  · exact (right2 x w).mono fun _ _ ⟨h, h'⟩ => ⟨h, h'.symm⟩
  · exact (right6 x w).mono fun _ _ ⟨h, h'⟩ => ⟨h, h'.symm⟩
  · exact (right11 x w).mono fun _ _ ⟨h, h'⟩ => ⟨h, h'.symm⟩
  · exact (right13 x w).mono fun _ _ ⟨h, h'⟩ => ⟨h, h'.symm⟩
  · exact (right22 x w).mono fun _ _ ⟨h, h'⟩ => ⟨h, h'.symm⟩
  · exact (right25 x w).mono fun _ _ ⟨h, h'⟩ => ⟨h, h'.symm⟩

set_option maxRecDepth 100000 in
theorem Step_ok (h : List UInt32) (hh : h.length = 8) (b : List UInt8) (hb : b.length = 64) (w : World) :
    Calls Try.prog 125 #[.agg (wrow h), .agg (brow b)] w fun e w' => e = .returned (.agg (wrow (Sha.step h b))) ∧ Ch (fun _ => False) w w' := by
  have HSC := Lib.hid (schedule_ok b hb)
  have HKC := Lib.hid constants_ok
  obtain ⟨Z, hZ⟩ : ∃ Z, zeroW 64 = Z := ⟨_, rfl⟩
  have z0 := zero64
  have hZs : Z.size = 64 := by rw [← hZ]; simp [zeroW]
  rw [hZ] at z0
  obtain ⟨Y, hY⟩ : ∃ Y, zeroW 8 = Y := ⟨_, rfl⟩
  have y0 := zero8
  have hYs : Y.size = 8 := by rw [← hY]; simp [zeroW]
  rw [hY] at y0
  obtain ⟨B, hB⟩ : ∃ B, brow b = B := ⟨_, rfl⟩
  have hBs : B.size = 64 := by rw [← hB, brow_size, hb]
  obtain ⟨H, hH⟩ : ∃ H, wrow h = H := ⟨_, rfl⟩
  have hHs : H.size = 8 := by rw [← hH, wrow_size, hh]
  obtain ⟨S, hS⟩ : ∃ S, wrow (Sha.sched b) = S := ⟨_, rfl⟩
  have hSs : S.size = 64 := by rw [← hS, wrow_size, Sha.sched_length]
  have hS1 := wrow_one (Sha.sched b)
  obtain ⟨K, hK⟩ : ∃ K, wrow Sha.kc = K := ⟨_, rfl⟩
  have hKs : K.size = 64 := by rw [← hK, wrow_size]; rfl
  have hK1 := wrow_one Sha.kc
  have hH1 := wrow_one h
  rw [hB, hS] at HSC
  rw [hK] at HKC
  rw [hB, hH]
  rw [hS] at hS1
  rw [hK] at hK1
  rw [hH] at hH1
  have Z0 := Lib.hid (And.intro z0 hZs)
  have Y0 := Lib.hid (And.intro y0 hYs)
  have B0 := Lib.hid (And.intro hB hBs)
  have H0 := Lib.hid (And.intro hH (And.intro hHs hH1))
  have S0 := Lib.hid (And.intro hS (And.intro hSs hS1))
  have K0 := Lib.hid (And.intro hK (And.intro hKs hK1))
  have HH := Lib.hid hh
  clear hZ z0 hZs hY y0 hYs hB hBs hH hHs hH1 hS hSs hS1 hK hKs hK1 hh hb
  go_enter Try.func125, Try.ntmps125
  go_wp2_with (first
    | ((with_reducible show wpList _ _ _ (⟨_, .alloc 177, _, _, _, _⟩ :: _) _ _); refine wpList_alloc_is rfl 177 rfl (.agg Y) Y0.out.1 ?_; dsimp only [Value.cells]; try simp only [World.size_alloc])
    | ((with_reducible show wpList _ _ _ (⟨_, .load 179 _, _, _, _, _⟩ :: _) _ _); refine wpList_load_part rfl 179 _ rfl (w.heap.size + 1) 0 rfl (row_alloc (by have := heap_alloc_new (w.alloc (.cells H 177)) (.cells B 179); simpa using this) _) Try.underlying179 rfl sizeb64 (by rw [B0.out.2]; omega) B (by simp [← B0.out.2]) ?_))
  refine (HSC.out _).mono ?_; rintro e w1 ⟨rfl, hc1⟩
  go_wp2_with fail
  refine (HKC.out _).mono ?_; rintro e w2 ⟨rfl, hc2⟩
  have s1 := hc1.size
  have s2 := hc2.size
  simp only [World.size_alloc] at s1
  have e0 : w2.heap[w.heap.size]? = some (.cells H 177 (0, 0)) := by
    refine hc2.row (hc1.row ?_ id) id
    (repeat (first | with_reducible exact heap_alloc_new _ _ | with_reducible refine row_drew ?_ | with_reducible refine row_drewN ?_ _ | with_reducible refine row_alloc ?_ _ | with_reducible refine row_setRow ?_ (by simp <;> omega) _ | with_reducible refine row_set ?_ (by simp <;> omega) _))
  have e2 : w2.heap[w.heap.size + 1 + 1]? = some (.cells Y 177 (0, 0)) := by
    refine hc2.row (hc1.row ?_ id) id
    have := heap_alloc_new ((w.alloc (.cells H 177)).alloc (.cells B 179)) (.cells Y 177)
    simpa using this
  have hw2 : Ch (fun _ => False) w w2 := ((((Ch.refl _ _).alloc _).alloc _).alloc _ |>.trans hc1 (fun _ h => h.elim)).trans hc2 (fun _ h => h.elim)
  have g1 : w.heap.size < w2.heap.size := by omega
  have g2 : w.heap.size + 1 + 1 < w2.heap.size := by omega
  have E0 := Lib.hid e0
  have E2 := Lib.hid e2
  have HW2 := Lib.hid hw2
  clear hc1 hc2 e0 e2 hw2 s1 s2
  go_wp2_with (first
    | ((with_reducible show wpList _ _ _ (⟨_, .alloc 177, _, _, _, _⟩ :: _) _ _); refine wpList_alloc_is rfl 177 rfl (.agg Y) Y0.out.1 ?_; dsimp only [Value.cells]; try simp only [World.size_alloc, size_setRow])
    | ((with_reducible show wpList _ _ _ (⟨_, .alloc 191, _, _, _, _⟩ :: _) _ _); refine wpList_alloc_is rfl 191 rfl (.agg Z) Z0.out.1 ?_; dsimp only [Value.cells]; try simp only [World.size_alloc])
    | ((with_reducible show wpList _ _ _ (⟨_, .store 191 _ _, _, _, _, _⟩ :: _) _ _); refine wpList_store_part rfl 191 _ _ rfl w2.heap.size 0 S rfl rfl (row_alloc (heap_alloc_new _ _) _) (by rw [size64, S0.out.2.1]) (by rw [S0.out.2.1, Z0.out.2]; omega) S0.out.2.2 S (by rw [splice_all _ _ (by rw [Array.length_toList, Array.length_toList, S0.out.2.1, Z0.out.2])]) ?_)
    | ((with_reducible show wpList _ _ _ (⟨_, .store 191 _ (.tmp 16), _, _, _, _⟩ :: _) _ _); go_must (refine wpList_store_part rfl 191 _ _ rfl (w2.heap.size + 1) 0 K rfl rfl (by rw [heap_setRow_ne, heap_alloc_at] <;> first | (simp; done) | omega) (by rw [size64, K0.out.2.1]) (by rw [K0.out.2.1, Z0.out.2]; omega) K0.out.2.2 K (by rw [splice_all _ _ (by rw [Array.length_toList, Array.length_toList, K0.out.2.1, Z0.out.2])]) ?_))
    | ((with_reducible show wpList _ _ _ (⟨_, .load 177 _, _, _, _, _⟩ :: _) _ _); refine wpList_load_part rfl 177 _ rfl w.heap.size 0 rfl (row_setRow (row_setRow (row_alloc (row_alloc E0.out _) _) (by omega) _) (by omega) _) Try.underlying177 rfl size8 (by rw [H0.out.2.1]; omega) H (by simp [← H0.out.2.1]) ?_)
    | ((with_reducible show wpList _ _ _ (⟨_, .store 177 _ _, _, _, _, _⟩ :: _) _ _); refine wpList_store_part rfl 177 _ _ rfl (w2.heap.size + 1 + 1) 0 H rfl rfl (by rw [heap_alloc_at]; simp) (by rw [size8, H0.out.2.1]) (by rw [H0.out.2.1, Y0.out.2]; omega) H0.out.2.2 H (by rw [splice_all _ _ (by rw [Array.length_toList, Array.length_toList, H0.out.2.1, Y0.out.2])]) ?_))
  go_loopg [18] 64 (fun g s18 wr => ∃ k : Nat, k ≤ 64 ∧ g = 64 - k ∧ s18 = .int .i64 k ∧ wr.heap[w2.heap.size + 1 + 1]? = some (.cells (wrow (Sha.rounds (Sha.sched b) h k)) 177 (0, 0)) ∧
    wr.heap[w2.heap.size]? = some (.cells S 191 (0, 0)) ∧ wr.heap[w2.heap.size + 1]? = some (.cells K 191 (0, 0)) ∧ wr.heap[w.heap.size]? = some (.cells H 177 (0, 0)) ∧
    wr.heap[w.heap.size + 1 + 1]? = some (.cells Y 177 (0, 0)) ∧ Ch (fun _ => False) w wr)
  case atStart =>
    have hws := HW2.out.size
    refine ⟨0, Nat.zero_le _, rfl, rfl, ?_, ?_, ?_, ?_, ?_, ?_⟩
    · show _ = some (Obj.cells (wrow h) _ _)
      rw [heap_setRow_eq, heap_alloc_at] <;> simp [H0.out.1, putRow]
    · rw [heap_setRow_ne, heap_alloc_lt, heap_setRow_ne, heap_setRow_eq, heap_alloc_lt, heap_alloc_at] <;> first | (simp [putRow]; done) | (simp; omega)
    · rw [heap_setRow_ne, heap_alloc_lt, heap_setRow_eq, heap_setRow_ne, heap_alloc_at] <;> first | (simp [putRow]; done) | (simp; omega)
    · (repeat (first | with_reducible exact E0.out | with_reducible refine row_drew ?_ | with_reducible refine row_drewN ?_ _ | with_reducible refine row_alloc ?_ _ | with_reducible refine row_setRow ?_ (by simp <;> omega) _ | with_reducible refine row_set ?_ (by simp <;> omega) _))
    · (repeat (first | with_reducible exact E2.out | with_reducible refine row_drew ?_ | with_reducible refine row_drewN ?_ _ | with_reducible refine row_alloc ?_ _ | with_reducible refine row_setRow ?_ (by simp <;> omega) _ | with_reducible refine row_set ?_ (by simp <;> omega) _))
    · exact (((((HW2.out.alloc _).alloc _).setRow (.inr (by omega)) _).setRow (.inr (by omega)) _).alloc _).setRow (.inr (by omega)) _
  case round =>
    obtain ⟨k, hk, rfl, rfl, rv, rS, rK, rH, rY, hch⟩ := hrel
    by_cases hkl : k < 64
    · have hVl := Sha.rounds_length (Sha.sched b) h HH.out k
      have hgs := wrow_get (l := Sha.sched b) (i := k) (by rw [Sha.sched_length]; exact hkl)
      have hgk := wrow_get (l := Sha.kc) (i := k) (by show k < 64; exact hkl)
      rw [S0.out.1] at hgs
      rw [K0.out.1] at hgk
      have hnx : Sha.rounds (Sha.sched b) h (k + 1) = Sha.round (Sha.kc.getD k 0) ((Sha.sched b).getD k 0) (Sha.rounds (Sha.sched b) h k) := rfl
      obtain ⟨V, hV⟩ : ∃ V, V = Sha.rounds (Sha.sched b) h k := ⟨_, rfl⟩
      rw [← hV] at hVl rv hnx
      have hrd : Sha.round (Sha.kc.getD k 0) ((Sha.sched b).getD k 0) V = Sha.round (Sha.kc.getD k 0) ((Sha.sched b).getD k 0) [V.getD 0 0, V.getD 1 0, V.getD 2 0, V.getD 3 0, V.getD 4 0, V.getD 5 0, V.getD 6 0, V.getD 7 0] := rfl
      have c0 := row_cell rv (wrow_get (l := V) (i := 0) (by omega))
      have c1 := row_cell rv (wrow_get (l := V) (i := 1) (by omega))
      have c2 := row_cell rv (wrow_get (l := V) (i := 2) (by omega))
      have c3 := row_cell rv (wrow_get (l := V) (i := 3) (by omega))
      have c4 := row_cell rv (wrow_get (l := V) (i := 4) (by omega))
      have c5 := row_cell rv (wrow_get (l := V) (i := 5) (by omega))
      have c6 := row_cell rv (wrow_get (l := V) (i := 6) (by omega))
      have c7 := row_cell rv (wrow_get (l := V) (i := 7) (by omega))
      have cs := row_cell rS hgs
      have ck := row_cell rK hgk
      generalize V.getD 0 0 = v0 at c0 hrd
      generalize V.getD 1 0 = v1 at c1 hrd
      generalize V.getD 2 0 = v2 at c2 hrd
      generalize V.getD 3 0 = v3 at c3 hrd
      generalize V.getD 4 0 = v4 at c4 hrd
      generalize V.getD 5 0 = v5 at c5 hrd
      generalize V.getD 6 0 = v6 at c6 hrd
      generalize V.getD 7 0 = v7 at c7 hrd
      generalize (Sha.sched b).getD k 0 = xs at cs hrd hnx
      generalize Sha.kc.getD k 0 = xk at ck hrd hnx
      have hk1 : (k : Int) ≤ 63 := by omega
      have hk2 : k ≤ 63 := by omega
      have hk3 : (k : Int) < 64 := by omega
      have HN := Lib.hid (hnx.trans hrd)
      have HVL := Lib.hid hVl
      have RV := Lib.hid rv
      have RS := Lib.hid rS
      have RK := Lib.hid rK
      have RH := Lib.hid rH
      have RY := Lib.hid rY
      have HC := Lib.hid hch
      clear hnx hrd hVl rv rS rK rH rY hch hV hgs hgk
      go_wp2
      go_quiet (fail)
      obtain ⟨wq, hwq⟩ : ∃ wq, wq = wr.drewN nq := ⟨_, rfl⟩
      rw [← hwq]
      replace c0 := cell_q hwq c0
      replace c1 := cell_q hwq c1
      replace c2 := cell_q hwq c2
      replace c3 := cell_q hwq c3
      replace c4 := cell_q hwq c4
      replace c5 := cell_q hwq c5
      replace c6 := cell_q hwq c6
      replace c7 := cell_q hwq c7
      replace cs := cell_q hwq cs
      replace ck := cell_q hwq ck
      have HWwq := Lib.hid hwq
      clear hwq
      go_wp2
      go_quiet ((go_at_call 134; exact Calls.quiet_of_same (right_any _ _ _ (by omega))))
      obtain ⟨wp, hwp⟩ : ∃ wp, wp = wq.drewN nq := ⟨_, rfl⟩
      rw [← hwp]
      replace c0 := cell_q hwp c0
      replace c1 := cell_q hwp c1
      replace c2 := cell_q hwp c2
      replace c3 := cell_q hwp c3
      replace c4 := cell_q hwp c4
      replace c5 := cell_q hwp c5
      replace c6 := cell_q hwp c6
      replace c7 := cell_q hwp c7
      have HWwp := Lib.hid hwp
      clear hwp
      go_wp2
      go_quiet ((go_at_call 134; exact Calls.quiet_of_same (right_any _ _ _ (by omega))))
      obtain ⟨wz, hwz⟩ : ∃ wz, wz = wp.drewN nq := ⟨_, rfl⟩
      rw [← hwz]
      replace c0 := cell_q hwz c0
      replace c1 := cell_q hwz c1
      replace c2 := cell_q hwz c2
      replace c3 := cell_q hwz c3
      replace c4 := cell_q hwz c4
      replace c5 := cell_q hwz c5
      replace c6 := cell_q hwz c6
      replace c7 := cell_q hwz c7
      have HWwz := Lib.hid hwz
      clear hwz
      have RVZ : Hid (wz.heap[w2.heap.size + 1 + 1]? = some (.cells (wrow V) 177 (0, 0))) := by show _ = _; rw [HWwz.out, HWwp.out, HWwq.out]; exact RV.out
      have HCZ : Hid (Ch (fun _ => False) w wz) := by show Ch _ _ _; rw [HWwz.out, HWwp.out, HWwq.out]; exact ((HC.out.drewN _).drewN _).drewN _
      have HVW : Hid ((wrow V).size = 8) := by show _ = _; rw [wrow_size, HVL.out]
      go_wp2_with (first
        | ((with_reducible show wpList _ _ _ (⟨_, .store 177 _ _, _, _, _, _⟩ :: _) _ _); refine wpList_store_part rfl 177 _ _ rfl (w2.heap.size + 1 + 1) 0 _ rfl rfl RVZ.out (by rw [size8]; rfl) (by rw [HVW.out]; exact Nat.le_refl _) (by intro v hv; simp at hv; rcases hv with rfl | rfl | rfl | rfl | rfl | rfl | rfl | rfl <;> rfl) _ (by rw [splice_all _ _ (by rw [Array.length_toList, Array.length_toList, HVW.out]; rfl)]) ?_))
      go_roundg (64 - (k + 1))
      case measure => omega
      case rel =>
        refine ⟨k + 1, by omega, rfl, by go_num, ?_, ?_, ?_, ?_, ?_, HCZ.out.setRow (.inr (by have := HW2.out.size; omega)) _⟩
        · rw [row_setRow_same RVZ.out, HN.out, sum5, sum5']
          rfl
        · refine row_setRow ?_ (by omega) _
          rw [HWwz.out, HWwp.out, HWwq.out]; exact RS.out
        · refine row_setRow ?_ (by omega) _
          rw [HWwz.out, HWwp.out, HWwq.out]; exact RK.out
        · refine row_setRow ?_ (by omega) _
          rw [HWwz.out, HWwp.out, HWwq.out]; exact RH.out
        · refine row_setRow ?_ (by omega) _
          rw [HWwz.out, HWwp.out, HWwq.out]; exact RY.out
    · have h64 : k = 64 := by omega
      rw [h64] at rv
      have hd : decide ((k : Int) < 64) = false := by simp; omega
      have hVl := Sha.rounds_length (Sha.sched b) h HH.out 64
      have hst : Sha.step h b = List.zipWith (· + ·) h (Sha.rounds (Sha.sched b) h 64) := rfl
      obtain ⟨V, hV⟩ : ∃ V, V = Sha.rounds (Sha.sched b) h 64 := ⟨_, rfl⟩
      rw [← hV] at rv hVl hst
      rw [← H0.out.1] at rH
      obtain ⟨wo, hwo⟩ : ∃ wo : World, wo = wr := ⟨_, rfl⟩
      subst hwo
      have HST := Lib.hid hst
      have HVL := Lib.hid hVl
      have RV := Lib.hid rv
      have RH := Lib.hid rH
      have RY := Lib.hid rY
      have HC := Lib.hid hch
      clear hst hVl rv rS rK rH rY hch hV h64 hkl
      go_wp2
      go_loopg [98] 8 (fun g s98 wr => ∃ i : Nat, i ≤ 8 ∧ g = 8 - i ∧ s98 = .int .i64 i ∧ wr.heap[w.heap.size]? = some (.cells (wrow (added h V i)) 177 (0, 0)) ∧
        wr.heap[w2.heap.size + 1 + 1]? = some (.cells (wrow V) 177 (0, 0)) ∧ wr.heap[w.heap.size + 1 + 1]? = some (.cells Y 177 (0, 0)) ∧ Ch (fun _ => False) w wr)
      case atStart => exact ⟨0, Nat.zero_le _, rfl, rfl, RH.out, RV.out, RY.out, HC.out⟩
      case round =>
        obtain ⟨i, hi, rfl, rfl, rh, rv, rY, hch⟩ := hrel
        by_cases hil : i < 8
        · have hal := added_length h V i (by rw [HVL.out, HH.out]) (by rw [HH.out]; omega)
          have c1 := row_cell rh (wrow_get (l := added h V i) (i := i) (by rw [hal, HH.out]; exact hil))
          have c2 := row_cell rv (wrow_get (l := V) (i := i) (by rw [HVL.out]; exact hil))
          rw [added_get h V i (by rw [HVL.out, HH.out]) (by rw [HH.out]; exact hil)] at c1
          have hsu := added_succ h V i (by rw [HVL.out, HH.out]) (by rw [HH.out]; exact hil)
          generalize h.getD i 0 = x1 at c1 hsu
          generalize V.getD i 0 = x2 at c2 hsu
          have cf := row_free rh i
          have cl := row_lt rh
          have hi1 : (i : Int) ≤ 7 := by omega
          have hi2 : i ≤ 7 := by omega
          have hi3 : (i : Int) < 8 := by omega
          have HSU := Lib.hid hsu
          have RH2 := Lib.hid rh
          have RV2 := Lib.hid rv
          have RY2 := Lib.hid rY
          have HC2 := Lib.hid hch
          clear hal hsu rh rv rY hch
          go_wp2
          go_still_tail 7, (by kernel_rfl)
          show wpList _ _ _ _ _ wr.drew
          go_wp2
          go_roundg (8 - (i + 1))
          case measure => omega
          case rel =>
            have hws := HW2.out.size
            refine ⟨i + 1, by omega, rfl, by go_num, ?_, ?_, ?_, (HC2.out.setCell (p := ⟨w.heap.size, i, none⟩) (.inr (Nat.le_refl _)) _).drew⟩
            · refine row_drew ?_
              have := row_set_same RH2.out i (wv (wa x1 x2))
              rw [this, wrow_set, HSU.out]
              rfl
            · exact row_drew (row_set RV2.out (by simp only [ne_eq]; omega) _)
            · exact row_drew (row_set RY2.out (by simp only [ne_eq]; omega) _)
        · have h8 : i = h.length := by rw [HH.out]; omega
          have hd8 : decide ((i : Int) < 8) = false := by simp; omega
          rw [h8, added_all h V (by rw [HVL.out, HH.out]), ← HST.out] at rh
          have hsl := Sha.step_length h b HH.out
          obtain ⟨R, hR⟩ : ∃ R, wrow (Sha.step h b) = R := ⟨_, rfl⟩
          have hRs : R.size = 8 := by rw [← hR, wrow_size, hsl]
          have hR1 := wrow_one (Sha.step h b)
          rw [hR] at rh hR1
          have HR := Lib.hid (And.intro hR (And.intro hRs hR1))
          have RH2 := Lib.hid rh
          have RY2 := Lib.hid rY
          have HC2 := Lib.hid hch
          clear h8 hsl hR hRs hR1 rh rv rY hch hil
          go_wp2_with (first
            | ((with_reducible show wpList _ _ _ (⟨_, .load 177 _, _, _, _, _⟩ :: _) _ _); refine wpList_load_part rfl 177 _ rfl w.heap.size 0 rfl RH2.out Try.underlying177 rfl size8 (by rw [HR.out.2.1]; omega) R (by simp [← HR.out.2.1]) ?_)
            | ((with_reducible show wpList _ _ _ (⟨_, .store 177 _ _, _, _, _, _⟩ :: _) _ _); refine wpList_store_part rfl 177 _ _ rfl (w.heap.size + 1 + 1) 0 R rfl rfl RY2.out (by rw [size8, HR.out.2.1]) (by rw [HR.out.2.1, Y0.out.2]; omega) HR.out.2.2 R (by rw [splice_all _ _ (by rw [Array.length_toList, Array.length_toList, HR.out.2.1, Y0.out.2])]) ?_))
          exact bodyPost_ret_cell1 (p := 4) rfl rfl (row_setRow_same RY2.out _) Try.underlying177 rfl (by rw [size8, HR.out.2.1]) rfl ⟨by rw [HR.out.1], HC2.out.setRow (.inr (by omega)) _⟩

end Go.Proofs.Ytdgdpbmaalcedaa.ShaW

/- The contract of sha.schedule: the words of a block. -/
import Derived.Test.YtdgdpbmaalcedaaShaW
namespace Go.Proofs.Ytdgdpbmaalcedaa.ShaW
open Go Go.RowKit Go.Proofs.Ytdgdpbmaalcedaa
set_option maxHeartbeats 800000
set_option linter.unusedVariables false

theorem be_val (a b c d : UInt8) : bits .or .u32 (bits .or .u32 (bits .or .u32 ((a.toNat : Int) % (4294967296 : Int) * (16777216 : Int) % (4294967296 : Int)) ((b.toNat : Int) % (4294967296 : Int) * (65536 : Int) % (4294967296 : Int))) ((c.toNat : Int) % (4294967296 : Int) * (256 : Int) % (4294967296 : Int))) ((d.toNat : Int) % (4294967296 : Int)) = ((Sha.be a b c d).toNat : Int) := by
  have e : ∀ x : UInt8, (x.toNat : Int) % (4294967296 : Int) = (x.toUInt32.toNat : Int) := fun x => by
    have := x.toNat_lt
    simp; omega
  have h24 : ∀ x : UInt32, (x.toNat : Int) * (16777216 : Int) % (4294967296 : Int) = ((x <<< 24).toNat : Int) := fun x => shl_u24 x
  have h16 : ∀ x : UInt32, (x.toNat : Int) * (65536 : Int) % (4294967296 : Int) = ((x <<< 16).toNat : Int) := fun x => shl_u16 x
  have h8 : ∀ x : UInt32, (x.toNat : Int) * (256 : Int) % (4294967296 : Int) = ((x <<< 8).toNat : Int) := fun x => shl_u8 x
  rw [e a, e b, e c, e d, h24, h16, h8, or_u, or_u, or_u]
  rfl

theorem sig1_val (x : UInt32) : bits .xor .u32 (bits .xor .u32 ((rotr x 17).toNat : Int) ((rotr x 19).toNat : Int)) ((x.toNat : Int) / (1024 : Int)) = ((Sha.sig1 x).toNat : Int) := by
  have h : (x.toNat : Int) / (1024 : Int) = ((x >>> 10).toNat : Int) := shr_u10 x
  rw [h, xor_u, xor_u]
  rfl
theorem sig0_val (x : UInt32) : bits .xor .u32 (bits .xor .u32 ((rotr x 7).toNat : Int) ((rotr x 18).toNat : Int)) ((x.toNat : Int) / (8 : Int)) = ((Sha.sig0 x).toNat : Int) := by
  have h : (x.toNat : Int) / (8 : Int) = ((x >>> 3).toNat : Int) := shr_u3 x
  rw [h, xor_u, xor_u]
  rfl

set_option maxRecDepth 100000 in
theorem schedule_ok (b : List UInt8) (hb : b.length = 64) (w : World) : Calls Try.prog 132 #[.agg (brow b)] w fun e w' => e = .returned (.agg (wrow (Sha.sched b))) ∧ Ch (fun _ => False) w w' := by
  have z0 := zero64
  obtain ⟨Z, hZ⟩ : ∃ Z, zeroW 64 = Z := ⟨_, rfl⟩
  obtain ⟨B, hB⟩ : ∃ B, brow b = B := ⟨_, rfl⟩
  have hBs : B.size = 64 := by rw [← hB, brow_size, hb]
  rw [hZ] at z0
  rw [hB]
  have Z0 := Lib.hid z0
  have HZ := Lib.hid hZ
  have HB := Lib.hid hB
  have HBS := Lib.hid hBs
  have HBL := Lib.hid hb
  clear z0 hZ hB hBs hb
  go_enter Try.func132, Try.ntmps132
  go_wp2_with (first | ((with_reducible show wpList _ _ _ (⟨_, .alloc 191, _, _, _, _⟩ :: _) _ _); refine wpList_alloc_is rfl 191 rfl (.agg Z) Z0.out ?_; dsimp only [Value.cells]; try simp only [World.size_alloc]))
  go_loopg [10] 16 (fun g s10 wr => ∃ k : Nat, k ≤ 16 ∧ g = 16 - k ∧ s10 = .int .i64 k ∧ wr.heap[w.heap.size]? = some (.cells B 179 (0, 0)) ∧ wr.heap[w.heap.size + 1 + 1]? = some (.cells (wrow (pad64 (Sha.w16 b k))) 191 (0, 0)) ∧
    (∃ c, wr.heap[w.heap.size + 1]? = some (.cells c 191 (0, 0)) ∧ c.size = 64) ∧ Ch (fun _ => False) w wr)
  case atStart =>
    have hmz : wrow (pad64 (Sha.w16 b 0)) = Z := by rw [← HZ.out]; exact pad64_nil
    refine ⟨0, Nat.zero_le _, rfl, rfl, ?_, ?_, ⟨Z, ?_, by rw [← HZ.out]; simp [zeroW]⟩, ?_⟩
    · refine row_alloc (row_alloc ?_ _) _
      have := heap_alloc_new w (.cells B 179)
      exact this
    · rw [hmz]
      have := heap_alloc_new ((w.alloc (.cells B 179)).alloc (.cells Z 191)) (.cells Z 191)
      simpa using this
    · refine row_alloc ?_ _
      have := heap_alloc_new (w.alloc (.cells B 179)) (.cells Z 191)
      simpa using this
    · (repeat (first | with_reducible exact Ch.refl _ _ | with_reducible exact Ch.refl _ _ | with_reducible refine Ch.drew ?_ | with_reducible refine Ch.drewN ?_ _ | with_reducible refine Ch.alloc ?_ _ | with_reducible refine Ch.setCell ?_ (by first | exact .inr (by simp <;> omega) | (left; simp; done)) _ | with_reducible refine Ch.setRow ?_ (by first | exact .inr (by simp <;> omega) | (left; simp; done)) _))
  case round =>
    obtain ⟨k, hk, rfl, rfl, hrb, hrw, hr2, hch⟩ := hrel
    by_cases hkl : k < 16
    · have hbl : ∀ j, j < 64 → B[j]? = some (bv (b.getD j 0)) := fun j hj => by rw [← HB.out]; exact brow_get (by rw [HBL.out]; exact hj)
      have c0 := row_cell hrb (hbl (4 * k) (by omega))
      have c1 := row_cell hrb (hbl (4 * k + 1) (by omega))
      have c2 := row_cell hrb (hbl (4 * k + 2) (by omega))
      have c3 := row_cell hrb (hbl (4 * k + 3) (by omega))
      have hwd : Sha.be (b.getD (4 * k) 0) (b.getD (4 * k + 1) 0) (b.getD (4 * k + 2) 0) (b.getD (4 * k + 3) 0) = Sha.word b k := rfl
      generalize b.getD (4 * k) 0 = x0 at c0 hwd
      generalize b.getD (4 * k + 1) 0 = x1 at c1 hwd
      generalize b.getD (4 * k + 2) 0 = x2 at c2 hwd
      generalize b.getD (4 * k + 3) 0 = x3 at c3 hwd
      have HWD := Lib.hid hwd
      obtain ⟨old, hold⟩ := pad64_some (l := Sha.w16 b k) (by rw [Sha.w16_length]; omega) (i := k) (by omega)
      have c4 := row_cell hrw hold
      have f4 := row_free hrw k
      have l4 := row_lt hrw
      have hk15 : k ≤ 15 := by omega
      have hk15' : (k : Int) ≤ 15 := by omega
      have HRB := Lib.hid hrb
      have HRW := Lib.hid hrw
      have HR2 := Lib.hid hr2
      have HCH := Lib.hid hch
      clear hrb hrw hr2 hch hbl hold hwd
      have p1 : 0 ≤ 4 * (k : Int) := by omega
      have p2 : 4 * (k : Int) < 64 := by omega
      have n1 : 0 ≤ 4 * (k : Int) + 1 := by omega
      have n2 : 0 ≤ 4 * (k : Int) + 2 := by omega
      have n3 : 0 ≤ 4 * (k : Int) + 3 := by omega
      have p3 : 4 * (k : Int) + 1 < 64 := by omega
      have p4 : 4 * (k : Int) + 2 < 64 := by omega
      have p5 : 4 * (k : Int) + 3 < 64 := by omega
      have q1 : (4 * (k : Int)).toNat = 4 * k := by omega
      have q2 : (4 * (k : Int) + 1).toNat = 4 * k + 1 := by omega
      have q3 : (4 * (k : Int) + 2).toNat = 4 * k + 2 := by omega
      have q4 : (4 * (k : Int) + 3).toNat = 4 * k + 3 := by omega
      have w1 : IntKind.i64.wrap (4 * (k : Int)) = 4 * k := IntWalk.i64_in _ (by omega)
      have w2 : IntKind.i64.wrap (4 * (k : Int) + 1) = 4 * k + 1 := IntWalk.i64_in _ (by omega)
      have w3 : IntKind.i64.wrap (4 * (k : Int) + 2) = 4 * k + 2 := IntWalk.i64_in _ (by omega)
      have w4 : IntKind.i64.wrap (4 * (k : Int) + 3) = 4 * k + 3 := IntWalk.i64_in _ (by omega)
      go_wp2
      go_still_tail 30, (by kernel_rfl)
      show wpList _ _ _ _ _ wr.drew
      go_wp2
      go_roundg (16 - (k + 1))
      case measure => omega
      case rel =>
        clear q1 q2 q3 q4 w1 w2 w3 w4
        rw [be_val x0 x1 x2 x3, HWD.out]
        have hwl := HCH.out.size
        obtain ⟨c, hc1, hc2⟩ := HR2.out
        refine ⟨k + 1, by omega, rfl, by go_num, ?_, ?_, ⟨c, ?_, hc2⟩, ?_⟩
        · (repeat (first | with_reducible exact HRB.out | with_reducible refine row_drew ?_ | with_reducible refine row_drewN ?_ _ | with_reducible refine row_alloc ?_ _ | with_reducible refine row_setRow ?_ (by simp <;> omega) _ | with_reducible refine row_set ?_ (by simp <;> omega) _))
        · refine row_drew ?_
          have := row_set_same HRW.out k (wv (Sha.word b k))
          rw [this, Sha.w16_succ, ← pad64_set (by rw [Sha.w16_length]; omega), Sha.w16_length]
        · (repeat (first | with_reducible exact hc1 | with_reducible refine row_drew ?_ | with_reducible refine row_drewN ?_ _ | with_reducible refine row_alloc ?_ _ | with_reducible refine row_setRow ?_ (by simp <;> omega) _ | with_reducible refine row_set ?_ (by simp <;> omega) _))
        · (repeat (first | with_reducible exact HCH.out | with_reducible exact Ch.refl _ _ | with_reducible refine Ch.drew ?_ | with_reducible refine Ch.drewN ?_ _ | with_reducible refine Ch.alloc ?_ _ | with_reducible refine Ch.setCell ?_ (by first | exact .inr (by simp <;> omega) | (left; simp; done)) _ | with_reducible refine Ch.setRow ?_ (by first | exact .inr (by simp <;> omega) | (left; simp; done)) _))
    · obtain rfl : k = 16 := by omega
      obtain ⟨wo, hwo⟩ : ∃ wo : World, wo = wr := ⟨_, rfl⟩
      subst hwo
      have hkl' : ¬ ((16 : Nat) : Int) < 16 := by omega
      obtain ⟨cr, hcr, hcs⟩ := hr2
      have HRW := Lib.hid hrw
      have HCR := Lib.hid (And.intro hcr hcs)
      have HCH := Lib.hid hch
      clear hrb hrw hcr hcs hch hkl
      go_wp2
      go_loopg [5] 48 (fun g s5 wr => ∃ n : Nat, n ≤ 48 ∧ g = 48 - n ∧ s5 = .int .i64 (16 + n) ∧ wr.heap[w.heap.size + 1 + 1]? = some (.cells (wrow (pad64 (Sha.ext (Sha.w16 b 16) n))) 191 (0, 0)) ∧
        wr.heap[w.heap.size + 1]? = some (.cells cr 191 (0, 0)) ∧ Ch (fun _ => False) w wr)
      case atStart => exact ⟨0, Nat.zero_le _, rfl, rfl, HRW.out, HCR.out.1, HCH.out⟩
      case round =>
        obtain ⟨n, hn, rfl, rfl, hrw, hr2, hch⟩ := hrel
        by_cases hnl : n < 48
        · have hl : (Sha.ext (Sha.w16 b 16) n).length = 16 + n := by rw [Sha.ext_length, Sha.w16_length]
          have hg : ∀ d : Nat, 0 < d → d ≤ 16 → wr.cell? ⟨w.heap.size + 1 + 1, 16 + n - d, none⟩ = some (wv ((Sha.ext (Sha.w16 b 16) n).getD ((Sha.ext (Sha.w16 b 16) n).length - d) 0)) := fun d h0 h1 => by
            have := row_cell hrw (pad64_get (l := Sha.ext (Sha.w16 b 16) n) (i := (Sha.ext (Sha.w16 b 16) n).length - d) (by omega))
            rw [hl] at this ⊢
            exact this
          have c2 := hg 2 (by omega) (by omega)
          have c7 := hg 7 (by omega) (by omega)
          have c15 := hg 15 (by omega) (by omega)
          have c16 := hg 16 (by omega) (by omega)
          rw [show 16 + n - 16 = n by omega] at c16
          obtain ⟨L, hL⟩ : ∃ L, L = Sha.ext (Sha.w16 b 16) n := ⟨_, rfl⟩
          have hne : Sha.next L = ((Sha.sig1 (L.getD (L.length - 2) 0) + L.getD (L.length - 7) 0) + Sha.sig0 (L.getD (L.length - 15) 0)) + L.getD (L.length - 16) 0 := rfl
          have hex : Sha.ext (Sha.w16 b 16) (n + 1) = L ++ [Sha.next L] := by rw [hL]; rfl
          rw [← hL] at c2 c7 c15 c16 hl hrw
          generalize L.getD (L.length - 2) 0 = x2 at c2 hne
          generalize L.getD (L.length - 7) 0 = x7 at c7 hne
          generalize L.getD (L.length - 15) 0 = x15 at c15 hne
          generalize L.getD (L.length - 16) 0 = x16 at c16 hne
          obtain ⟨old, hold⟩ := pad64_some (l := L) (by omega) (i := 16 + n) (by omega)
          have co := row_cell hrw hold
          have cf := row_free hrw (16 + n)
          have cl := row_lt hrw
          have hn1 : (n : Int) ≤ 47 := by omega
          have hn2 : n ≤ 47 := by omega
          have HNE := Lib.hid hne
          have HEX := Lib.hid hex
          have HL := Lib.hid hl
          have HRW2 := Lib.hid hrw
          have HR2 := Lib.hid hr2
          have HC2 := Lib.hid hch
          clear hg hne hex hold hl hrw hr2 hch hL
          have n2 : 0 ≤ 16 + (n : Int) - 2 := by omega
          have m2 : 2 ≤ 16 + (n : Int) := by omega
          have p2 : 16 + (n : Int) - 2 < 64 := by omega
          have q2 : (16 + (n : Int) - 2).toNat = 16 + n - 2 := by omega
          have w2 : IntKind.i64.wrap (16 + (n : Int) - 2) = 16 + n - 2 := IntWalk.i64_in _ (by omega)
          have n7 : 0 ≤ 16 + (n : Int) - 7 := by omega
          have m7 : 7 ≤ 16 + (n : Int) := by omega
          have p7 : 16 + (n : Int) - 7 < 64 := by omega
          have q7 : (16 + (n : Int) - 7).toNat = 16 + n - 7 := by omega
          have w7 : IntKind.i64.wrap (16 + (n : Int) - 7) = 16 + n - 7 := IntWalk.i64_in _ (by omega)
          have n15 : 0 ≤ 16 + (n : Int) - 15 := by omega
          have m15 : 15 ≤ 16 + (n : Int) := by omega
          have p15 : 16 + (n : Int) - 15 < 64 := by omega
          have q15 : (16 + (n : Int) - 15).toNat = 16 + n - 15 := by omega
          have w15 : IntKind.i64.wrap (16 + (n : Int) - 15) = 16 + n - 15 := IntWalk.i64_in _ (by omega)
          have n16 : 0 ≤ 16 + (n : Int) - 16 := by omega
          have m16 : 16 ≤ 16 + (n : Int) := by omega
          have p16 : 16 + (n : Int) - 16 < 64 := by omega
          have q16 : (16 + (n : Int) - 16).toNat = n := by omega
          have w16 : IntKind.i64.wrap (16 + (n : Int) - 16) = 16 + n - 16 := IntWalk.i64_in _ (by omega)
          have n0 : 0 ≤ 16 + (n : Int) := by omega
          have q0 : (16 + (n : Int)).toNat = 16 + n := by omega
          have s1 := sig1_val x2
          have s0 := sig0_val x15
          generalize Sha.sig1 x2 = y1 at s1 HNE
          generalize Sha.sig0 x15 = y0 at s0 HNE
          obtain ⟨a1, a1'⟩ := addw y1 x7
          generalize y1 + x7 = z1 at a1 a1' HNE
          obtain ⟨a2, a2'⟩ := addw z1 y0
          generalize z1 + y0 = z2 at a2 a2' HNE
          obtain ⟨a3, a3'⟩ := addw z2 x16
          generalize z2 + x16 = z3 at a3 a3' HNE
          go_wp2
          go_quiet (fail)
          go_wp2_with fail
          refine (right17 x2 _).mono ?_; rintro e w1 ⟨rfl, rfl⟩
          go_wp2_with fail
          refine (right19 x2 _).mono ?_; rintro e w1 ⟨rfl, rfl⟩
          go_wp2_with fail
          refine (right7 x15 _).mono ?_; rintro e w1 ⟨rfl, rfl⟩
          go_wp2_with fail
          refine (right18 x15 _).mono ?_; rintro e w1 ⟨rfl, rfl⟩
          go_wp2
          obtain ⟨wq, hwq⟩ : ∃ wq, wq = wr.drewN nq := ⟨_, rfl⟩
          rw [← hwq]
          have e7 : wq.cell? ⟨w.heap.size + 1 + 1, 16 + n - 7, none⟩ = some (wv x7) := by subst hwq; exact c7
          have e16 : wq.cell? ⟨w.heap.size + 1 + 1, n, none⟩ = some (wv x16) := by subst hwq; exact c16
          have eo : wq.cell? ⟨w.heap.size + 1 + 1, 16 + n, none⟩ = some old := by subst hwq; exact co
          have ef : wq.frozen? ⟨w.heap.size + 1 + 1, 16 + n, none⟩ = false := by subst hwq; exact cf
          have el : w.heap.size + 1 + 1 < wq.heap.size := by subst hwq; exact cl
          have HWQ := Lib.hid hwq
          clear hwq c2 c7 c15 c16 co cf cl
          go_still_tail 14, (by kernel_rfl)
          show wpList _ _ _ _ _ wq.drew
          go_wp2
          go_roundg (48 - (n + 1))
          case measure => omega
          case rel =>
            clear n2 m2 p2 q2 w2 n7 m7 p7 q7 w7 n15 m15 p15 q15 w15 n16 m16 p16 q16 w16 q0 s1 s0 a1 a1' a2 a2' a3 a3'
            have hws := HC2.out.size
            have hq : Ch (fun _ => False) w wq := by rw [HWQ.out]; exact HC2.out.drewN _
            have hr : wq.heap[w.heap.size + 1 + 1]? = some (.cells (wrow (pad64 L)) 191 (0, 0)) := by rw [HWQ.out]; exact HRW2.out
            have hr2 : wq.heap[w.heap.size + 1]? = some (.cells cr 191 (0, 0)) := by rw [HWQ.out]; exact HR2.out
            refine ⟨n + 1, by omega, rfl, by go_num, ?_, ?_, ?_⟩
            · refine row_drew ?_
              have := row_set_same hr (16 + n) (wv z3)
              rw [this, HEX.out, HNE.out, ← HL.out, pad64_set (by rw [HL.out]; omega)]
            · (repeat (first | with_reducible exact hr2 | with_reducible refine row_drew ?_ | with_reducible refine row_drewN ?_ _ | with_reducible refine row_alloc ?_ _ | with_reducible refine row_setRow ?_ (by simp <;> omega) _ | with_reducible refine row_set ?_ (by simp <;> omega) _))
            · (repeat (first | with_reducible exact hq | with_reducible exact Ch.refl _ _ | with_reducible refine Ch.drew ?_ | with_reducible refine Ch.drewN ?_ _ | with_reducible refine Ch.alloc ?_ _ | with_reducible refine Ch.setCell ?_ (by first | exact .inr (by simp <;> omega) | (left; simp; done)) _ | with_reducible refine Ch.setRow ?_ (by first | exact .inr (by simp <;> omega) | (left; simp; done)) _))
        · have h48 : n = 48 := by omega
          have hnl' : decide (16 + (n : Int) < 64) = false := by simp; omega
          rw [h48] at hrw
          have hsc : Sha.ext (Sha.w16 b 16) 48 = Sha.sched b := rfl
          have hsl := Sha.sched_length b
          rw [hsc, pad64_full hsl] at hrw
          obtain ⟨S, hS⟩ : ∃ S, wrow (Sha.sched b) = S := ⟨_, rfl⟩
          have hSs : S.size = 64 := by rw [← hS, wrow_size, hsl]
          have hS1 := wrow_one (Sha.sched b)
          rw [hS] at hrw hS1
          have HS0 := Lib.hid hS
          have HS1 := Lib.hid hS1
          have HSS := Lib.hid hSs
          have HRS := Lib.hid hrw
          have HR2 := Lib.hid hr2
          have HC2 := Lib.hid hch
          clear hS hSs hS1 hrw hr2 hch hsc hsl hnl h48
          go_wp2_with (first
            | ((with_reducible show wpList _ _ _ (⟨_, .load 191 _, _, _, _, _⟩ :: _) _ _); refine wpList_load_part rfl 191 _ rfl (w.heap.size + 1 + 1) 0 rfl HRS.out Try.underlying191 rfl size64 (by rw [HSS.out]; omega) S (by simp [← HSS.out]) ?_)
            | ((with_reducible show wpList _ _ _ (⟨_, .store 191 _ _, _, _, _, _⟩ :: _) _ _); refine wpList_store_part rfl 191 _ _ rfl (w.heap.size + 1) 0 S rfl rfl HR2.out (by rw [size64, HSS.out]) (by rw [HSS.out, HCR.out.2]; omega) HS1.out S (by rw [splice_all _ _ (by rw [Array.length_toList, Array.length_toList, HSS.out, HCR.out.2])]) ?_))
          have hws := HC2.out.size
          exact bodyPost_ret_cell1 (p := 2) rfl rfl (row_setRow_same HR2.out _) Try.underlying191 rfl (by rw [size64, HSS.out]) rfl ⟨by rw [HS0.out], HC2.out.setRow (.inr (by omega)) _⟩

end Go.Proofs.Ytdgdpbmaalcedaa.ShaW

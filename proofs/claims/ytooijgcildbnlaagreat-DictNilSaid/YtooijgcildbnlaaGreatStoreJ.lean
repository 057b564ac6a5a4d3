/- The contracts of store.Store, part nine: fits. -/
import Derived.Test.YtooijgcildbnlaaGreatStoreI
namespace Go.Proofs.YtooijgcildbnlaaGreat.Store
open Go Go.RowKit Go.Proofs.YtooijgcildbnlaaGreat Go.Proofs.YtooijgcildbnlaaGreat.ShaW Go.Proofs.YtooijgcildbnlaaGreat.Path
set_option maxHeartbeats 1600000
set_option linter.unusedVariables false

set_option maxRecDepth 100000 in
theorem fits_none {l r : Nd} (hl : l.Ok) (hr : r.Ok) (d left right : Int) (hd0 : 0 ≤ d) (hd1 : d ≤ 255) (h0 : left = 0) (h1 : right = 0) (w : World) :
    Calls Tryz.prog 237 #[.int .i64 d, .int .i64 left, .int .i64 right, l.enc, r.enc] w fun e w' => e = .returned (.bool false) ∧ Adds w w' := by
  have fl := fit_ok hl d 0 hd0 hd1
  have fr := fit_ok hr d 1 hd0 hd1
  have kl := Nd.at_kind hl
  have kr := Nd.at_kind hr
  have xl := Nd.at_key hl
  have xr := Nd.at_key hr
  have sl := Nd.cells_size hl
  have sr := Nd.cells_size hr
  have hcm := Common_ok l.key r.key hl.key hr.key
  unfold Nd.enc at fl fr ⊢
  obtain ⟨L, hL⟩ : ∃ L, L = l.cells := ⟨_, rfl⟩
  obtain ⟨R, hR⟩ : ∃ R, R = r.cells := ⟨_, rfl⟩
  obtain ⟨KL, hKL⟩ : ∃ KL, KL = brow l.key := ⟨_, rfl⟩
  obtain ⟨KR, hKR⟩ : ∃ KR, KR = brow r.key := ⟨_, rfl⟩
  rw [← hL] at fl kl xl sl
  rw [← hR] at fr kr xr sr
  rw [← hL, ← hR]
  rw [← hKL] at xl hcm
  rw [← hKR] at xr hcm
  clear hL hR hKL hKR hl hr
  have al := two_left w L R
  have ar := two_right w L R
  subst h0 h1
  have SL := Lib.hid (And.intro sl xl)
  have SR := Lib.hid (And.intro sr xr)
  have FL := Lib.hid fl
  have FR := Lib.hid fr
  have AL := Lib.hid al
  have AR := Lib.hid ar
  have CM := Lib.hid hcm
  clear fl fr kl kr xl xr sl sr hcm al ar
  go_enter Tryz.func237, Tryz.ntmps237
  go_wp2
  go_ret
  exact ⟨rfl, (two_adds w _ _)⟩

set_option maxRecDepth 100000 in
theorem fits_right_no {l r : Nd} (hl : l.Ok) (hr : r.Ok) (d left right : Int) (hd0 : 0 ≤ d) (hd1 : d ≤ 255) (h0 : left = 0) (h1 : right ≠ 0) (hk : r.kind ≠ 2) (w : World) :
    Calls Tryz.prog 237 #[.int .i64 d, .int .i64 left, .int .i64 right, l.enc, r.enc] w fun e w' => e = .returned (.bool false) ∧ Adds w w' := by
  have fl := fit_ok hl d 0 hd0 hd1
  have fr := fit_ok hr d 1 hd0 hd1
  have kl := Nd.at_kind hl
  have kr := Nd.at_kind hr
  have xl := Nd.at_key hl
  have xr := Nd.at_key hr
  have sl := Nd.cells_size hl
  have sr := Nd.cells_size hr
  have hcm := Common_ok l.key r.key hl.key hr.key
  unfold Nd.enc at fl fr ⊢
  obtain ⟨L, hL⟩ : ∃ L, L = l.cells := ⟨_, rfl⟩
  obtain ⟨R, hR⟩ : ∃ R, R = r.cells := ⟨_, rfl⟩
  obtain ⟨KL, hKL⟩ : ∃ KL, KL = brow l.key := ⟨_, rfl⟩
  obtain ⟨KR, hKR⟩ : ∃ KR, KR = brow r.key := ⟨_, rfl⟩
  rw [← hL] at fl kl xl sl
  rw [← hR] at fr kr xr sr
  rw [← hL, ← hR]
  rw [← hKL] at xl hcm
  rw [← hKR] at xr hcm
  clear hL hR hKL hKR hl hr
  have al := two_left w L R
  have ar := two_right w L R
  subst h0
  have c0 := row_cell ar kr
  have hkk : ((r.kind : Nat) : Int) ≠ 2 := by omega
  have e1 : (((r.kind : Nat) : Int) == 2) = false := by simpa using hkk
  have e3 : (right == 0) = false := by simpa using h1
  have e4 : decide (right = 0) = false := by simpa using h1
  have e2 : decide (((r.kind : Nat) : Int) = 2) = false := by simpa using hkk
  have SL := Lib.hid (And.intro sl xl)
  have SR := Lib.hid (And.intro sr xr)
  have FL := Lib.hid fl
  have FR := Lib.hid fr
  have AL := Lib.hid al
  have AR := Lib.hid ar
  have CM := Lib.hid hcm
  clear fl fr kl kr xl xr sl sr hcm al ar
  go_enter Tryz.func237, Tryz.ntmps237
  go_wp2
  go_ret
  exact ⟨rfl, (two_adds w _ _)⟩

set_option maxRecDepth 100000 in
theorem fits_right {l r : Nd} (hl : l.Ok) (hr : r.Ok) (d left right : Int) (hd0 : 0 ≤ d) (hd1 : d ≤ 255) (h0 : left = 0) (h1 : right ≠ 0) (hk : r.kind = 2) (w : World) :
    Calls Tryz.prog 237 #[.int .i64 d, .int .i64 left, .int .i64 right, l.enc, r.enc] w fun e w' => e = .returned (.bool (fitB r d 1)) ∧ Adds w w' := by
  have fl := fit_ok hl d 0 hd0 hd1
  have fr := fit_ok hr d 1 hd0 hd1
  have kl := Nd.at_kind hl
  have kr := Nd.at_kind hr
  have xl := Nd.at_key hl
  have xr := Nd.at_key hr
  have sl := Nd.cells_size hl
  have sr := Nd.cells_size hr
  have hcm := Common_ok l.key r.key hl.key hr.key
  unfold Nd.enc at fl fr ⊢
  obtain ⟨L, hL⟩ : ∃ L, L = l.cells := ⟨_, rfl⟩
  obtain ⟨R, hR⟩ : ∃ R, R = r.cells := ⟨_, rfl⟩
  obtain ⟨KL, hKL⟩ : ∃ KL, KL = brow l.key := ⟨_, rfl⟩
  obtain ⟨KR, hKR⟩ : ∃ KR, KR = brow r.key := ⟨_, rfl⟩
  rw [← hL] at fl kl xl sl
  rw [← hR] at fr kr xr sr
  rw [← hL, ← hR]
  rw [← hKL] at xl hcm
  rw [← hKR] at xr hcm
  clear hL hR hKL hKR hl hr
  have al := two_left w L R
  have ar := two_right w L R
  subst h0
  rw [hk] at kr
  have c0 := row_cell ar kr
  have e3 : (right == 0) = false := by simpa using h1
  have e4 : decide (right = 0) = false := by simpa using h1
  generalize fitB r d 1 = bb at *
  clear hk
  have SL := Lib.hid (And.intro sl xl)
  have SR := Lib.hid (And.intro sr xr)
  have FL := Lib.hid fl
  have FR := Lib.hid fr
  have AL := Lib.hid al
  have AR := Lib.hid ar
  have CM := Lib.hid hcm
  clear fl fr kl kr xl xr sl sr hcm al ar
  go_enter Tryz.func237, Tryz.ntmps237
  go_wp2_with fail
  refine wpOp_load_part 159 _ rfl (w.heap.size + 1) 0 rfl AR.out Tryz.underlying159 rfl sizeN (by rw [SR.out.1]; omega) R (by simp [← SR.out.1]) ?_
  go_wp2_with fail
  refine (FR.out _).mono ?_; rintro e w1 ⟨rfl, hc1⟩
  have C1 := Lib.hid hc1
  clear hc1
  go_wp2
  go_ret
  exact ⟨rfl, (two_adds w _ _).trans C1.out (fun _ h => h.elim)⟩

set_option maxRecDepth 100000 in
theorem fits_left_no {l r : Nd} (hl : l.Ok) (hr : r.Ok) (d left right : Int) (hd0 : 0 ≤ d) (hd1 : d ≤ 255) (h0 : left ≠ 0) (h1 : right = 0) (hk : l.kind ≠ 2) (w : World) :
    Calls Tryz.prog 237 #[.int .i64 d, .int .i64 left, .int .i64 right, l.enc, r.enc] w fun e w' => e = .returned (.bool false) ∧ Adds w w' := by
  have fl := fit_ok hl d 0 hd0 hd1
  have fr := fit_ok hr d 1 hd0 hd1
  have kl := Nd.at_kind hl
  have kr := Nd.at_kind hr
  have xl := Nd.at_key hl
  have xr := Nd.at_key hr
  have sl := Nd.cells_size hl
  have sr := Nd.cells_size hr
  have hcm := Common_ok l.key r.key hl.key hr.key
  unfold Nd.enc at fl fr ⊢
  obtain ⟨L, hL⟩ : ∃ L, L = l.cells := ⟨_, rfl⟩
  obtain ⟨R, hR⟩ : ∃ R, R = r.cells := ⟨_, rfl⟩
  obtain ⟨KL, hKL⟩ : ∃ KL, KL = brow l.key := ⟨_, rfl⟩
  obtain ⟨KR, hKR⟩ : ∃ KR, KR = brow r.key := ⟨_, rfl⟩
  rw [← hL] at fl kl xl sl
  rw [← hR] at fr kr xr sr
  rw [← hL, ← hR]
  rw [← hKL] at xl hcm
  rw [← hKR] at xr hcm
  clear hL hR hKL hKR hl hr
  have al := two_left w L R
  have ar := two_right w L R
  subst h1
  have c0 := row_cell al kl
  have hkk : ((l.kind : Nat) : Int) ≠ 2 := by omega
  have e1 : (((l.kind : Nat) : Int) == 2) = false := by simpa using hkk
  have e3 : (left == 0) = false := by simpa using h0
  have e4 : decide (left = 0) = false := by simpa using h0
  have e2 : decide (((l.kind : Nat) : Int) = 2) = false := by simpa using hkk
  have SL := Lib.hid (And.intro sl xl)
  have SR := Lib.hid (And.intro sr xr)
  have FL := Lib.hid fl
  have FR := Lib.hid fr
  have AL := Lib.hid al
  have AR := Lib.hid ar
  have CM := Lib.hid hcm
  clear fl fr kl kr xl xr sl sr hcm al ar
  go_enter Tryz.func237, Tryz.ntmps237
  go_wp2
  go_ret
  exact ⟨rfl, (two_adds w _ _)⟩

set_option maxRecDepth 100000 in
theorem fits_left {l r : Nd} (hl : l.Ok) (hr : r.Ok) (d left right : Int) (hd0 : 0 ≤ d) (hd1 : d ≤ 255) (h0 : left ≠ 0) (h1 : right = 0) (hk : l.kind = 2) (w : World) :
    Calls Tryz.prog 237 #[.int .i64 d, .int .i64 left, .int .i64 right, l.enc, r.enc] w fun e w' => e = .returned (.bool (fitB l d 0)) ∧ Adds w w' := by
  have fl := fit_ok hl d 0 hd0 hd1
  have fr := fit_ok hr d 1 hd0 hd1
  have kl := Nd.at_kind hl
  have kr := Nd.at_kind hr
  have xl := Nd.at_key hl
  have xr := Nd.at_key hr
  have sl := Nd.cells_size hl
  have sr := Nd.cells_size hr
  have hcm := Common_ok l.key r.key hl.key hr.key
  unfold Nd.enc at fl fr ⊢
  obtain ⟨L, hL⟩ : ∃ L, L = l.cells := ⟨_, rfl⟩
  obtain ⟨R, hR⟩ : ∃ R, R = r.cells := ⟨_, rfl⟩
  obtain ⟨KL, hKL⟩ : ∃ KL, KL = brow l.key := ⟨_, rfl⟩
  obtain ⟨KR, hKR⟩ : ∃ KR, KR = brow r.key := ⟨_, rfl⟩
  rw [← hL] at fl kl xl sl
  rw [← hR] at fr kr xr sr
  rw [← hL, ← hR]
  rw [← hKL] at xl hcm
  rw [← hKR] at xr hcm
  clear hL hR hKL hKR hl hr
  have al := two_left w L R
  have ar := two_right w L R
  subst h1
  rw [hk] at kl
  have c0 := row_cell al kl
  have e3 : (left == 0) = false := by simpa using h0
  have e4 : decide (left = 0) = false := by simpa using h0
  generalize fitB l d 0 = bb at *
  clear hk
  have SL := Lib.hid (And.intro sl xl)
  have SR := Lib.hid (And.intro sr xr)
  have FL := Lib.hid fl
  have FR := Lib.hid fr
  have AL := Lib.hid al
  have AR := Lib.hid ar
  have CM := Lib.hid hcm
  clear fl fr kl kr xl xr sl sr hcm al ar
  go_enter Tryz.func237, Tryz.ntmps237
  go_wp2_with fail
  refine wpOp_load_part 159 _ rfl w.heap.size 0 rfl AL.out Tryz.underlying159 rfl sizeN (by rw [SL.out.1]; omega) L (by simp [← SL.out.1]) ?_
  go_wp2_with fail
  refine (FL.out _).mono ?_; rintro e w1 ⟨rfl, hc1⟩
  have C1 := Lib.hid hc1
  clear hc1
  go_wp2
  go_ret
  exact ⟨rfl, (two_adds w _ _).trans C1.out (fun _ h => h.elim)⟩

set_option maxRecDepth 100000 in
theorem fits_both_l {l r : Nd} (hl : l.Ok) (hr : r.Ok) (d left right : Int) (hd0 : 0 ≤ d) (hd1 : d ≤ 255) (h0 : left ≠ 0) (h1 : right ≠ 0) (hk : fitB l d 0 = false) (w : World) :
    Calls Tryz.prog 237 #[.int .i64 d, .int .i64 left, .int .i64 right, l.enc, r.enc] w fun e w' => e = .returned (.bool false) ∧ Adds w w' := by
  have fl := fit_ok hl d 0 hd0 hd1
  have fr := fit_ok hr d 1 hd0 hd1
  have kl := Nd.at_kind hl
  have kr := Nd.at_kind hr
  have xl := Nd.at_key hl
  have xr := Nd.at_key hr
  have sl := Nd.cells_size hl
  have sr := Nd.cells_size hr
  have hcm := Common_ok l.key r.key hl.key hr.key
  unfold Nd.enc at fl fr ⊢
  obtain ⟨L, hL⟩ : ∃ L, L = l.cells := ⟨_, rfl⟩
  obtain ⟨R, hR⟩ : ∃ R, R = r.cells := ⟨_, rfl⟩
  obtain ⟨KL, hKL⟩ : ∃ KL, KL = brow l.key := ⟨_, rfl⟩
  obtain ⟨KR, hKR⟩ : ∃ KR, KR = brow r.key := ⟨_, rfl⟩
  rw [← hL] at fl kl xl sl
  rw [← hR] at fr kr xr sr
  rw [← hL, ← hR]
  rw [← hKL] at xl hcm
  rw [← hKR] at xr hcm
  clear hL hR hKL hKR hl hr
  have al := two_left w L R
  have ar := two_right w L R
  have e3 : (left == 0) = false := by simpa using h0
  have e4 : decide (left = 0) = false := by simpa using h0
  have e5 : (right == 0) = false := by simpa using h1
  have e6 : decide (right = 0) = false := by simpa using h1
  rw [hk] at fl
  clear hk
  have SL := Lib.hid (And.intro sl xl)
  have SR := Lib.hid (And.intro sr xr)
  have FL := Lib.hid fl
  have FR := Lib.hid fr
  have AL := Lib.hid al
  have AR := Lib.hid ar
  have CM := Lib.hid hcm
  clear fl fr kl kr xl xr sl sr hcm al ar
  go_enter Tryz.func237, Tryz.ntmps237
  go_wp2_with fail
  refine wpOp_load_part 159 _ rfl w.heap.size 0 rfl AL.out Tryz.underlying159 rfl sizeN (by rw [SL.out.1]; omega) L (by simp [← SL.out.1]) ?_
  go_wp2_with fail
  refine (FL.out _).mono ?_; rintro e w1 ⟨rfl, hc1⟩
  have al1 := hc1.row AL.out id
  have ar1 := hc1.row AR.out id
  have hw1 := (two_adds w _ _).trans hc1 (fun _ h => h.elim)
  have AL1 := Lib.hid al1
  have AR1 := Lib.hid ar1
  have W1 := Lib.hid hw1
  clear hc1 al1 ar1 hw1
  go_wp2
  go_ret
  exact ⟨rfl, W1.out⟩

set_option maxRecDepth 100000 in
theorem fits_both_r {l r : Nd} (hl : l.Ok) (hr : r.Ok) (d left right : Int) (hd0 : 0 ≤ d) (hd1 : d ≤ 255) (h0 : left ≠ 0) (h1 : right ≠ 0) (hk : fitB l d 0 = true) (hm : fitB r d 1 = false) (w : World) :
    Calls Tryz.prog 237 #[.int .i64 d, .int .i64 left, .int .i64 right, l.enc, r.enc] w fun e w' => e = .returned (.bool false) ∧ Adds w w' := by
  have fl := fit_ok hl d 0 hd0 hd1
  have fr := fit_ok hr d 1 hd0 hd1
  have kl := Nd.at_kind hl
  have kr := Nd.at_kind hr
  have xl := Nd.at_key hl
  have xr := Nd.at_key hr
  have sl := Nd.cells_size hl
  have sr := Nd.cells_size hr
  have hcm := Common_ok l.key r.key hl.key hr.key
  unfold Nd.enc at fl fr ⊢
  obtain ⟨L, hL⟩ : ∃ L, L = l.cells := ⟨_, rfl⟩
  obtain ⟨R, hR⟩ : ∃ R, R = r.cells := ⟨_, rfl⟩
  obtain ⟨KL, hKL⟩ : ∃ KL, KL = brow l.key := ⟨_, rfl⟩
  obtain ⟨KR, hKR⟩ : ∃ KR, KR = brow r.key := ⟨_, rfl⟩
  rw [← hL] at fl kl xl sl
  rw [← hR] at fr kr xr sr
  rw [← hL, ← hR]
  rw [← hKL] at xl hcm
  rw [← hKR] at xr hcm
  clear hL hR hKL hKR hl hr
  have al := two_left w L R
  have ar := two_right w L R
  have e3 : (left == 0) = false := by simpa using h0
  have e4 : decide (left = 0) = false := by simpa using h0
  have e5 : (right == 0) = false := by simpa using h1
  have e6 : decide (right = 0) = false := by simpa using h1
  rw [hk] at fl
  rw [hm] at fr
  clear hk hm
  have SL := Lib.hid (And.intro sl xl)
  have SR := Lib.hid (And.intro sr xr)
  have FL := Lib.hid fl
  have FR := Lib.hid fr
  have AL := Lib.hid al
  have AR := Lib.hid ar
  have CM := Lib.hid hcm
  clear fl fr kl kr xl xr sl sr hcm al ar
  go_enter Tryz.func237, Tryz.ntmps237
  go_wp2_with fail
  refine wpOp_load_part 159 _ rfl w.heap.size 0 rfl AL.out Tryz.underlying159 rfl sizeN (by rw [SL.out.1]; omega) L (by simp [← SL.out.1]) ?_
  go_wp2_with fail
  refine (FL.out _).mono ?_; rintro e w1 ⟨rfl, hc1⟩
  have al1 := hc1.row AL.out id
  have ar1 := hc1.row AR.out id
  have hw1 := (two_adds w _ _).trans hc1 (fun _ h => h.elim)
  have AL1 := Lib.hid al1
  have AR1 := Lib.hid ar1
  have W1 := Lib.hid hw1
  clear hc1 al1 ar1 hw1
  go_wp2_with fail
  refine wpOp_load_part 159 _ rfl (w.heap.size + 1) 0 rfl AR1.out Tryz.underlying159 rfl sizeN (by rw [SR.out.1]; omega) R (by simp [← SR.out.1]) ?_
  go_wp2_with fail
  refine (FR.out _).mono ?_; rintro e w2 ⟨rfl, hc2⟩
  have al2 := hc2.row AL1.out id
  have ar2 := hc2.row AR1.out id
  have hw2 := W1.out.trans hc2 (fun _ h => h.elim)
  have AL2 := Lib.hid al2
  have AR2 := Lib.hid ar2
  have W2 := Lib.hid hw2
  clear hc2 al2 ar2 hw2
  go_wp2
  go_ret
  exact ⟨rfl, W2.out⟩

end Go.Proofs.YtooijgcildbnlaaGreat.Store

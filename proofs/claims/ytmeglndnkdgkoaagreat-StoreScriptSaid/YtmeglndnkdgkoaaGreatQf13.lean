/- Laws of the layers below. -/
import Derived.Test.YtmeglndnkdgkoaaGreatQf12
import Derived.Lib.Bytealg
import Derived.Sort.Statements
set_option maxHeartbeats 3200000
set_option maxRecDepth 100000
set_option linter.unusedVariables false
namespace Go.Proofs.YtmeglndnkdgkoaaGreat.Store
open Go.RowKit Go.Proofs.YtmeglndnkdgkoaaGreat.ShaW Go.Proofs.YtmeglndnkdgkoaaGreat.Path
theorem u8_lt {a b:UInt8}:a < b ↔ a.toNat < b.toNat:=UInt8.lt_iff_toNat_lt
theorem u8_eq {a b:UInt8}:a = b ↔ a.toNat = b.toNat:=UInt8.toNat_inj.symm
theorem div_step (n j:Nat) (hj:j < 8):n / 2 ^ (7 - j) = 2 * (n / 2 ^ (8 - j)) + n / 2 ^ (7 - j) % 2:=by
 have:n / 2 ^ (8 - j) = n / 2 ^ (7 - j) / 2:=by
  rw [Nat.div_div_eq_div_mul, ← Nat.pow_succ,Nat.succ_eq_add_one,show 7 - j + 1 = 8 - j by omega]
 omega
theorem high_eq (x y:UInt8):∀ j,j ≤ 8 → (∀ i,i < j → bbit x i = bbit y i) → x.toNat / 2 ^ (8 - j) = y.toNat / 2 ^ (8 - j)
 | 0,_,_ => by
  have a:=x.toNat_lt
  have b:=y.toNat_lt
  rw [Nat.div_eq_of_lt (by simpa using a),Nat.div_eq_of_lt (by simpa using b)]
 | j + 1,hj,h => by
  have ih:=high_eq x y j (by omega) (fun i hi => h i (by omega))
  have e:=h j (by omega)
  unfold bbit at e
  have a:=div_step x.toNat j (by omega)
  have b:=div_step y.toNat j (by omega)
  rw [show 8 - (j + 1) = 7 - j by omega,a,b,ih,e]
theorem byte_lt (x y:UInt8) (j:Nat) (hj:j < 8) (h:∀ i,i < j → bbit x i = bbit y i) (hx:bbit x j = 0) (hy:bbit y j = 1):x < y:=by
 rw [u8_lt]
 have e:=high_eq x y j (by omega) h
 have a:=div_step x.toNat j hj
 have b:=div_step y.toNat j hj
 unfold bbit at hx hy
 rw [hx,e] at a
 rw [hy] at b
 rcases Nat.lt_or_ge x.toNat y.toNat with g | g
 · exact g
 have:=Nat.div_le_div_right (c:=2 ^ (7 - j)) g
 omega
theorem byte_eq (x y:UInt8) (h:∀ i,i < 8 → bbit x i = bbit y i):x = y:=by
 rw [u8_eq]
 have e:=high_eq x y 8 (Nat.le_refl _) h
 simpa using e
theorem kbit_hd (x:UInt8) (l:List UInt8) {d:Nat} (h:d < 8):kbit (x :: l) d = bbit x d:=by
 unfold kbit
 rw [Nat.div_eq_of_lt h,Nat.mod_eq_of_lt h]
 rfl
theorem kbit_tl (x:UInt8) (l:List UInt8) (d:Nat):kbit (x :: l) (d + 8) = kbit l d:=by
 unfold kbit
 rw [Nat.add_div_right _ (by omega),Nat.add_mod_right]
 rfl
theorem cmp_bits:∀ (a b:List UInt8) (d:Nat),a.length = b.length → d < 8 * a.length → Pre a b d → kbit a d = 0 → kbit b d = 1 → Lib.compareBytes a b = -1
 | [],_,d,_,h,_,_,_ => absurd h (by simp)
 | _ :: _,[],_,h,_,_,_,_ => absurd h (by simp)
 | x :: l,y :: m,d,hl,hd,hp,ha,hb => by
  by_cases h8:d < 8
  · rw [kbit_hd x l h8] at ha
    rw [kbit_hd y m h8] at hb
    have:=byte_lt x y d h8 (fun i hi => by have:=hp i hi; rwa [kbit_hd x l (by omega),kbit_hd y m (by omega)] at this) ha hb
    unfold Lib.compareBytes
    rw [if_pos this]
  obtain ⟨e,rfl⟩:∃ e,d = e + 8:=⟨d - 8,by omega⟩
  rw [kbit_tl] at ha hb
  have hxy:=byte_eq x y (fun i hi => by have:=hp i (by omega); rwa [kbit_hd x l hi,kbit_hd y m hi] at this)
  subst hxy
  unfold Lib.compareBytes
  rw [if_neg (UInt8.lt_irrefl x),if_neg (UInt8.lt_irrefl x)]
  refine cmp_bits l m e (by simpa using hl) (by simp at hd; omega) (fun i hi => ?_) ha hb
  have:=hp (i + 8) (by omega)
  rwa [kbit_tl,kbit_tl] at this
theorem cmp_self:∀ a:List UInt8,Lib.compareBytes a a = 0
 | [] => rfl
 | x :: l => by
  unfold Lib.compareBytes
  rw [if_neg (UInt8.lt_irrefl x),if_neg (UInt8.lt_irrefl x)]
  exact cmp_self l
theorem cmp_lt_trans:∀ a b c:List UInt8,Lib.compareBytes a b < 0 → Lib.compareBytes b c < 0 → Lib.compareBytes a c < 0
 | [],[],c,h,_ => absurd h (by decide)
 | [],_ :: _,[],_,h => absurd h (by simp [Lib.compareBytes])
 | [],_ :: _,_ :: _,_,_ => by simp [Lib.compareBytes]
 | _ :: _,[],_,h,_ => absurd h (by simp [Lib.compareBytes])
 | _ :: _,_ :: _,[],_,h => absurd h (by simp [Lib.compareBytes])
 | x :: a,y :: b,z :: c,h1,h2 => by
  have ih:=cmp_lt_trans a b c
  unfold Lib.compareBytes at h1 h2 ⊢
  simp only [u8_lt] at h1 h2 ⊢
  by_cases e1:x.toNat < y.toNat
  · by_cases e2:y.toNat < z.toNat
    · rw [if_pos (by omega)]; decide
    rw [if_neg e2] at h2
    by_cases e3:z.toNat < y.toNat
    · rw [if_pos e3] at h2; exact absurd h2 (by decide)
    rw [if_pos (by omega)]; decide
  rw [if_neg e1] at h1
  by_cases e0:y.toNat < x.toNat
  · rw [if_pos e0] at h1; exact absurd h1 (by decide)
  rw [if_neg e0] at h1
  by_cases e2:y.toNat < z.toNat
  · rw [if_pos (by omega)]; decide
  rw [if_neg e2] at h2
  by_cases e3:z.toNat < y.toNat
  · rw [if_pos e3] at h2; exact absurd h2 (by decide)
  rw [if_neg e3] at h2
  rw [if_neg (by omega),if_neg (by omega)]
  exact ih h1 h2
def Rising (L:Ents):Prop:=L.Pairwise fun p q => ¬ Lib.compareBytes q.1 p.1 < 0
theorem fits_none {l r:Nd} (hl:l.Ok) (hr:r.Ok) (d left right:Int) (hd0:0 ≤ d) (hd1:d ≤ 255) (h0:left = 0) (h1:right = 0) (w:World) :
 Calls Tryz.prog 138 #[.int .i64 d,.int .i64 left,.int .i64 right,l.enc,r.enc] w fun e w' => e = .returned (.bool false) ∧ Adds w w':=by
 have fl:=fit_ok hl d 0 hd0 hd1
 have fr:=fit_ok hr d 1 hd0 hd1
 have kl:=Nd.at_kind hl
 have kr:=Nd.at_kind hr
 have xl:=Nd.at_key hl
 have xr:=Nd.at_key hr
 have sl:=Nd.cells_size hl
 have sr:=Nd.cells_size hr
 have hcm:=Common_ok l.key r.key hl.key hr.key
 unfold Nd.enc at fl fr ⊢
 obtain ⟨L,hL⟩:∃ L,L = l.cells:=⟨_,rfl⟩
 obtain ⟨R,hR⟩:∃ R,R = r.cells:=⟨_,rfl⟩
 obtain ⟨KL,hKL⟩:∃ KL,KL = brow l.key:=⟨_,rfl⟩
 obtain ⟨KR,hKR⟩:∃ KR,KR = brow r.key:=⟨_,rfl⟩
 rw [← hL] at fl kl xl sl
 rw [← hR] at fr kr xr sr
 rw [← hL, ← hR]
 rw [← hKL] at xl hcm
 rw [← hKR] at xr hcm
 clear hL hR hKL hKR hl hr
 have al:=two_left w L R
 have ar:=two_right w L R
 subst h0 h1
 have SL:=(hIq sl xl)
 have SR:=(hIq sr xr)
 have FL:=Lib.hid fl
 have FR:=Lib.hid fr
 have AL:=Lib.hid al
 have AR:=Lib.hid ar
 have CM:=Lib.hid hcm
 clear fl fr kl kr xl xr sl sr hcm al ar
 go_enter Tryz.func138,Tryz.ntmps138
 go_wp2
 go_ret
 exact ⟨rfl,(two_adds w _ _)⟩
theorem fits_right_no {l r:Nd} (hl:l.Ok) (hr:r.Ok) (d left right:Int) (hd0:0 ≤ d) (hd1:d ≤ 255) (h0:left = 0) (h1:right ≠ 0) (hk:r.kind ≠ 2) (w:World) :
 Calls Tryz.prog 138 #[.int .i64 d,.int .i64 left,.int .i64 right,l.enc,r.enc] w fun e w' => e = .returned (.bool false) ∧ Adds w w':=by
 have fl:=fit_ok hl d 0 hd0 hd1
 have fr:=fit_ok hr d 1 hd0 hd1
 have kl:=Nd.at_kind hl
 have kr:=Nd.at_kind hr
 have xl:=Nd.at_key hl
 have xr:=Nd.at_key hr
 have sl:=Nd.cells_size hl
 have sr:=Nd.cells_size hr
 have hcm:=Common_ok l.key r.key hl.key hr.key
 unfold Nd.enc at fl fr ⊢
 obtain ⟨L,hL⟩:∃ L,L = l.cells:=⟨_,rfl⟩
 obtain ⟨R,hR⟩:∃ R,R = r.cells:=⟨_,rfl⟩
 obtain ⟨KL,hKL⟩:∃ KL,KL = brow l.key:=⟨_,rfl⟩
 obtain ⟨KR,hKR⟩:∃ KR,KR = brow r.key:=⟨_,rfl⟩
 rw [← hL] at fl kl xl sl
 rw [← hR] at fr kr xr sr
 rw [← hL, ← hR]
 rw [← hKL] at xl hcm
 rw [← hKR] at xr hcm
 clear hL hR hKL hKR hl hr
 have al:=two_left w L R
 have ar:=two_right w L R
 subst h0
 have c0:=row_cell ar kr
 have hkk:((r.kind:Nat):Int) ≠ 2:=by omega
 have e1:(((r.kind:Nat):Int) == 2) = false:=by simpa using hkk
 have e3:(right == 0) = false:=by simpa using h1
 have e4:decide (right = 0) = false:=by simpa using h1
 have e2:decide (((r.kind:Nat):Int) = 2) = false:=by simpa using hkk
 have SL:=(hIq sl xl)
 have SR:=(hIq sr xr)
 have FL:=Lib.hid fl
 have FR:=Lib.hid fr
 have AL:=Lib.hid al
 have AR:=Lib.hid ar
 have CM:=Lib.hid hcm
 clear fl fr kl kr xl xr sl sr hcm al ar
 go_enter Tryz.func138,Tryz.ntmps138
 go_wp2
 go_ret
 exact ⟨rfl,(two_adds w _ _)⟩
theorem fits_right {l r:Nd} (hl:l.Ok) (hr:r.Ok) (d left right:Int) (hd0:0 ≤ d) (hd1:d ≤ 255) (h0:left = 0) (h1:right ≠ 0) (hk:r.kind = 2) (w:World) :
 Calls Tryz.prog 138 #[.int .i64 d,.int .i64 left,.int .i64 right,l.enc,r.enc] w fun e w' => e = .returned (.bool (fitB r d 1)) ∧ Adds w w':=by
 have fl:=fit_ok hl d 0 hd0 hd1
 have fr:=fit_ok hr d 1 hd0 hd1
 have kl:=Nd.at_kind hl
 have kr:=Nd.at_kind hr
 have xl:=Nd.at_key hl
 have xr:=Nd.at_key hr
 have sl:=Nd.cells_size hl
 have sr:=Nd.cells_size hr
 have hcm:=Common_ok l.key r.key hl.key hr.key
 unfold Nd.enc at fl fr ⊢
 obtain ⟨L,hL⟩:∃ L,L = l.cells:=⟨_,rfl⟩
 obtain ⟨R,hR⟩:∃ R,R = r.cells:=⟨_,rfl⟩
 obtain ⟨KL,hKL⟩:∃ KL,KL = brow l.key:=⟨_,rfl⟩
 obtain ⟨KR,hKR⟩:∃ KR,KR = brow r.key:=⟨_,rfl⟩
 rw [← hL] at fl kl xl sl
 rw [← hR] at fr kr xr sr
 rw [← hL, ← hR]
 rw [← hKL] at xl hcm
 rw [← hKR] at xr hcm
 clear hL hR hKL hKR hl hr
 have al:=two_left w L R
 have ar:=two_right w L R
 subst h0
 rw [hk] at kr
 have c0:=row_cell ar kr
 have e3:(right == 0) = false:=by simpa using h1
 have e4:decide (right = 0) = false:=by simpa using h1
 generalize fitB r d 1 = bb at *
 clear hk
 have SL:=(hIq sl xl)
 have SR:=(hIq sr xr)
 have FL:=Lib.hid fl
 have FR:=Lib.hid fr
 have AL:=Lib.hid al
 have AR:=Lib.hid ar
 have CM:=Lib.hid hcm
 clear fl fr kl kr xl xr sl sr hcm al ar
 go_enter Tryz.func138,Tryz.ntmps138
 go_wp2_with fail
 refine wpOp_load_part 123 _ rfl (w.heap.size + 1) 0 rfl AR.out Tryz.underlying123 rfl sizeN (by rw [SR.out.1]; omega) R (by simp [← SR.out.1]) ?_
 go_wp2_with fail
 refine (FR.out _).mono ?_; rintro e w1 ⟨rfl,hc1⟩
 have C1:=Lib.hid hc1
 clear hc1
 go_wp2
 go_ret
 exact ⟨rfl,(two_adds w _ _).trans C1.out (fun _ => fEq)⟩
theorem fits_left_no {l r:Nd} (hl:l.Ok) (hr:r.Ok) (d left right:Int) (hd0:0 ≤ d) (hd1:d ≤ 255) (h0:left ≠ 0) (h1:right = 0) (hk:l.kind ≠ 2) (w:World) :
 Calls Tryz.prog 138 #[.int .i64 d,.int .i64 left,.int .i64 right,l.enc,r.enc] w fun e w' => e = .returned (.bool false) ∧ Adds w w':=by
 have fl:=fit_ok hl d 0 hd0 hd1
 have fr:=fit_ok hr d 1 hd0 hd1
 have kl:=Nd.at_kind hl
 have kr:=Nd.at_kind hr
 have xl:=Nd.at_key hl
 have xr:=Nd.at_key hr
 have sl:=Nd.cells_size hl
 have sr:=Nd.cells_size hr
 have hcm:=Common_ok l.key r.key hl.key hr.key
 unfold Nd.enc at fl fr ⊢
 obtain ⟨L,hL⟩:∃ L,L = l.cells:=⟨_,rfl⟩
 obtain ⟨R,hR⟩:∃ R,R = r.cells:=⟨_,rfl⟩
 obtain ⟨KL,hKL⟩:∃ KL,KL = brow l.key:=⟨_,rfl⟩
 obtain ⟨KR,hKR⟩:∃ KR,KR = brow r.key:=⟨_,rfl⟩
 rw [← hL] at fl kl xl sl
 rw [← hR] at fr kr xr sr
 rw [← hL, ← hR]
 rw [← hKL] at xl hcm
 rw [← hKR] at xr hcm
 clear hL hR hKL hKR hl hr
 have al:=two_left w L R
 have ar:=two_right w L R
 subst h1
 have c0:=row_cell al kl
 have hkk:((l.kind:Nat):Int) ≠ 2:=by omega
 have e1:(((l.kind:Nat):Int) == 2) = false:=by simpa using hkk
 have e3:(left == 0) = false:=by simpa using h0
 have e4:decide (left = 0) = false:=by simpa using h0
 have e2:decide (((l.kind:Nat):Int) = 2) = false:=by simpa using hkk
 have SL:=(hIq sl xl)
 have SR:=(hIq sr xr)
 have FL:=Lib.hid fl
 have FR:=Lib.hid fr
 have AL:=Lib.hid al
 have AR:=Lib.hid ar
 have CM:=Lib.hid hcm
 clear fl fr kl kr xl xr sl sr hcm al ar
 go_enter Tryz.func138,Tryz.ntmps138
 go_wp2
 go_ret
 exact ⟨rfl,(two_adds w _ _)⟩
theorem fits_left {l r:Nd} (hl:l.Ok) (hr:r.Ok) (d left right:Int) (hd0:0 ≤ d) (hd1:d ≤ 255) (h0:left ≠ 0) (h1:right = 0) (hk:l.kind = 2) (w:World) :
 Calls Tryz.prog 138 #[.int .i64 d,.int .i64 left,.int .i64 right,l.enc,r.enc] w fun e w' => e = .returned (.bool (fitB l d 0)) ∧ Adds w w':=by
 have fl:=fit_ok hl d 0 hd0 hd1
 have fr:=fit_ok hr d 1 hd0 hd1
 have kl:=Nd.at_kind hl
 have kr:=Nd.at_kind hr
 have xl:=Nd.at_key hl
 have xr:=Nd.at_key hr
 have sl:=Nd.cells_size hl
 have sr:=Nd.cells_size hr
 have hcm:=Common_ok l.key r.key hl.key hr.key
 unfold Nd.enc at fl fr ⊢
 obtain ⟨L,hL⟩:∃ L,L = l.cells:=⟨_,rfl⟩
 obtain ⟨R,hR⟩:∃ R,R = r.cells:=⟨_,rfl⟩
 obtain ⟨KL,hKL⟩:∃ KL,KL = brow l.key:=⟨_,rfl⟩
 obtain ⟨KR,hKR⟩:∃ KR,KR = brow r.key:=⟨_,rfl⟩
 rw [← hL] at fl kl xl sl
 rw [← hR] at fr kr xr sr
 rw [← hL, ← hR]
 rw [← hKL] at xl hcm
 rw [← hKR] at xr hcm
 clear hL hR hKL hKR hl hr
 have al:=two_left w L R
 have ar:=two_right w L R
 subst h1
 rw [hk] at kl
 have c0:=row_cell al kl
 have e3:(left == 0) = false:=by simpa using h0
 have e4:decide (left = 0) = false:=by simpa using h0
 generalize fitB l d 0 = bb at *
 clear hk
 have SL:=(hIq sl xl)
 have SR:=(hIq sr xr)
 have FL:=Lib.hid fl
 have FR:=Lib.hid fr
 have AL:=Lib.hid al
 have AR:=Lib.hid ar
 have CM:=Lib.hid hcm
 clear fl fr kl kr xl xr sl sr hcm al ar
 go_enter Tryz.func138,Tryz.ntmps138
 go_wp2_with fail
 refine wpOp_load_part 123 _ rfl w.heap.size 0 rfl AL.out Tryz.underlying123 rfl sizeN (by rw [SL.out.1]; omega) L (by simp [← SL.out.1]) ?_
 go_wp2_with fail
 refine (FL.out _).mono ?_; rintro e w1 ⟨rfl,hc1⟩
 have C1:=Lib.hid hc1
 clear hc1
 go_wp2
 go_ret
 exact ⟨rfl,(two_adds w _ _).trans C1.out (fun _ => fEq)⟩
theorem fits_both_l {l r:Nd} (hl:l.Ok) (hr:r.Ok) (d left right:Int) (hd0:0 ≤ d) (hd1:d ≤ 255) (h0:left ≠ 0) (h1:right ≠ 0) (hk:fitB l d 0 = false) (w:World) :
 Calls Tryz.prog 138 #[.int .i64 d,.int .i64 left,.int .i64 right,l.enc,r.enc] w fun e w' => e = .returned (.bool false) ∧ Adds w w':=by
 have fl:=fit_ok hl d 0 hd0 hd1
 have fr:=fit_ok hr d 1 hd0 hd1
 have kl:=Nd.at_kind hl
 have kr:=Nd.at_kind hr
 have xl:=Nd.at_key hl
 have xr:=Nd.at_key hr
 have sl:=Nd.cells_size hl
 have sr:=Nd.cells_size hr
 have hcm:=Common_ok l.key r.key hl.key hr.key
 unfold Nd.enc at fl fr ⊢
 obtain ⟨L,hL⟩:∃ L,L = l.cells:=⟨_,rfl⟩
 obtain ⟨R,hR⟩:∃ R,R = r.cells:=⟨_,rfl⟩
 obtain ⟨KL,hKL⟩:∃ KL,KL = brow l.key:=⟨_,rfl⟩
 obtain ⟨KR,hKR⟩:∃ KR,KR = brow r.key:=⟨_,rfl⟩
 rw [← hL] at fl kl xl sl
 rw [← hR] at fr kr xr sr
 rw [← hL, ← hR]
 rw [← hKL] at xl hcm
 rw [← hKR] at xr hcm
 clear hL hR hKL hKR hl hr
 have al:=two_left w L R
 have ar:=two_right w L R
 have e3:(left == 0) = false:=by simpa using h0
 have e4:decide (left = 0) = false:=by simpa using h0
 have e5:(right == 0) = false:=by simpa using h1
 have e6:decide (right = 0) = false:=by simpa using h1
 rw [hk] at fl
 clear hk
 have SL:=(hIq sl xl)
 have SR:=(hIq sr xr)
 have FL:=Lib.hid fl
 have FR:=Lib.hid fr
 have AL:=Lib.hid al
 have AR:=Lib.hid ar
 have CM:=Lib.hid hcm
 clear fl fr kl kr xl xr sl sr hcm al ar
 go_enter Tryz.func138,Tryz.ntmps138
 go_wp2_with fail
 refine wpOp_load_part 123 _ rfl w.heap.size 0 rfl AL.out Tryz.underlying123 rfl sizeN (by rw [SL.out.1]; omega) L (by simp [← SL.out.1]) ?_
 go_wp2_with fail
 refine (FL.out _).mono ?_; rintro e w1 ⟨rfl,hc1⟩
 have al1:=hc1.row AL.out id
 have ar1:=hc1.row AR.out id
 have hw1:=(two_adds w _ _).trans hc1 (fun _ => fEq)
 have AL1:=Lib.hid al1
 have AR1:=Lib.hid ar1
 have W1:=Lib.hid hw1
 clear hc1 al1 ar1 hw1
 go_wp2
 go_ret
 exact ⟨rfl,W1.out⟩
theorem fits_both_r {l r:Nd} (hl:l.Ok) (hr:r.Ok) (d left right:Int) (hd0:0 ≤ d) (hd1:d ≤ 255) (h0:left ≠ 0) (h1:right ≠ 0) (hk:fitB l d 0 = true) (hm:fitB r d 1 = false) (w:World) :
 Calls Tryz.prog 138 #[.int .i64 d,.int .i64 left,.int .i64 right,l.enc,r.enc] w fun e w' => e = .returned (.bool false) ∧ Adds w w':=by
 have fl:=fit_ok hl d 0 hd0 hd1
 have fr:=fit_ok hr d 1 hd0 hd1
 have kl:=Nd.at_kind hl
 have kr:=Nd.at_kind hr
 have xl:=Nd.at_key hl
 have xr:=Nd.at_key hr
 have sl:=Nd.cells_size hl
 have sr:=Nd.cells_size hr
 have hcm:=Common_ok l.key r.key hl.key hr.key
 unfold Nd.enc at fl fr ⊢
 obtain ⟨L,hL⟩:∃ L,L = l.cells:=⟨_,rfl⟩
 obtain ⟨R,hR⟩:∃ R,R = r.cells:=⟨_,rfl⟩
 obtain ⟨KL,hKL⟩:∃ KL,KL = brow l.key:=⟨_,rfl⟩
 obtain ⟨KR,hKR⟩:∃ KR,KR = brow r.key:=⟨_,rfl⟩
 rw [← hL] at fl kl xl sl
 rw [← hR] at fr kr xr sr
 rw [← hL, ← hR]
 rw [← hKL] at xl hcm
 rw [← hKR] at xr hcm
 clear hL hR hKL hKR hl hr
 have al:=two_left w L R
 have ar:=two_right w L R
 have e3:(left == 0) = false:=by simpa using h0
 have e4:decide (left = 0) = false:=by simpa using h0
 have e5:(right == 0) = false:=by simpa using h1
 have e6:decide (right = 0) = false:=by simpa using h1
 rw [hk] at fl
 rw [hm] at fr
 clear hk hm
 have SL:=(hIq sl xl)
 have SR:=(hIq sr xr)
 have FL:=Lib.hid fl
 have FR:=Lib.hid fr
 have AL:=Lib.hid al
 have AR:=Lib.hid ar
 have CM:=Lib.hid hcm
 clear fl fr kl kr xl xr sl sr hcm al ar
 go_enter Tryz.func138,Tryz.ntmps138
 go_wp2_with fail
 refine wpOp_load_part 123 _ rfl w.heap.size 0 rfl AL.out Tryz.underlying123 rfl sizeN (by rw [SL.out.1]; omega) L (by simp [← SL.out.1]) ?_
 go_wp2_with fail
 refine (FL.out _).mono ?_; rintro e w1 ⟨rfl,hc1⟩
 have al1:=hc1.row AL.out id
 have ar1:=hc1.row AR.out id
 have hw1:=(two_adds w _ _).trans hc1 (fun _ => fEq)
 have AL1:=Lib.hid al1
 have AR1:=Lib.hid ar1
 have W1:=Lib.hid hw1
 clear hc1 al1 ar1 hw1
 go_wp2_with fail
 refine wpOp_load_part 123 _ rfl (w.heap.size + 1) 0 rfl AR1.out Tryz.underlying123 rfl sizeN (by rw [SR.out.1]; omega) R (by simp [← SR.out.1]) ?_
 go_wp2_with fail
 refine (FR.out _).mono ?_; rintro e w2 ⟨rfl,hc2⟩
 have al2:=hc2.row AL1.out id
 have ar2:=hc2.row AR1.out id
 have hw2:=W1.out.trans hc2 (fun _ => fEq)
 have AL2:=Lib.hid al2
 have AR2:=Lib.hid ar2
 have W2:=Lib.hid hw2
 clear hc2 al2 ar2 hw2
 go_wp2
 go_ret
 exact ⟨rfl,W2.out⟩
theorem fits_both {l r:Nd} (hl:l.Ok) (hr:r.Ok) (d left right:Int) (hd0:0 ≤ d) (hd1:d ≤ 255) (h0:left ≠ 0) (h1:right ≠ 0) (hk:fitB l d 0 = true) (hm:fitB r d 1 = true) (w:World) :
 Calls Tryz.prog 138 #[.int .i64 d,.int .i64 left,.int .i64 right,l.enc,r.enc] w fun e w' => e = .returned (.bool (decide (d ≤ (common l.key r.key:Nat)))) ∧ Adds w w':=by
 have fl:=fit_ok hl d 0 hd0 hd1
 have fr:=fit_ok hr d 1 hd0 hd1
 have kl:=Nd.at_kind hl
 have kr:=Nd.at_kind hr
 have xl:=Nd.at_key hl
 have xr:=Nd.at_key hr
 have sl:=Nd.cells_size hl
 have sr:=Nd.cells_size hr
 have hcm:=Common_ok l.key r.key hl.key hr.key
 unfold Nd.enc at fl fr ⊢
 obtain ⟨L,hL⟩:∃ L,L = l.cells:=⟨_,rfl⟩
 obtain ⟨R,hR⟩:∃ R,R = r.cells:=⟨_,rfl⟩
 obtain ⟨KL,hKL⟩:∃ KL,KL = brow l.key:=⟨_,rfl⟩
 obtain ⟨KR,hKR⟩:∃ KR,KR = brow r.key:=⟨_,rfl⟩
 rw [← hL] at fl kl xl sl
 rw [← hR] at fr kr xr sr
 rw [← hL, ← hR]
 rw [← hKL] at xl hcm
 rw [← hKR] at xr hcm
 clear hL hR hKL hKR hl hr
 have al:=two_left w L R
 have ar:=two_right w L R
 have e3:(left == 0) = false:=by simpa using h0
 have e4:decide (left = 0) = false:=by simpa using h0
 have e5:(right == 0) = false:=by simpa using h1
 have e6:decide (right = 0) = false:=by simpa using h1
 rw [hk] at fl
 rw [hm] at fr
 clear hk hm
 generalize common l.key r.key = cc at *
 have SL:=(hIq sl xl)
 have SR:=(hIq sr xr)
 have FL:=Lib.hid fl
 have FR:=Lib.hid fr
 have AL:=Lib.hid al
 have AR:=Lib.hid ar
 have CM:=Lib.hid hcm
 clear fl fr kl kr xl xr sl sr hcm al ar
 go_enter Tryz.func138,Tryz.ntmps138
 go_wp2_with fail
 refine wpOp_load_part 123 _ rfl w.heap.size 0 rfl AL.out Tryz.underlying123 rfl sizeN (by rw [SL.out.1]; omega) L (by simp [← SL.out.1]) ?_
 go_wp2_with fail
 refine (FL.out _).mono ?_; rintro e w1 ⟨rfl,hc1⟩
 have al1:=hc1.row AL.out id
 have ar1:=hc1.row AR.out id
 have hw1:=(two_adds w _ _).trans hc1 (fun _ => fEq)
 have AL1:=Lib.hid al1
 have AR1:=Lib.hid ar1
 have W1:=Lib.hid hw1
 clear hc1 al1 ar1 hw1
 go_wp2_with fail
 refine wpOp_load_part 123 _ rfl (w.heap.size + 1) 0 rfl AR1.out Tryz.underlying123 rfl sizeN (by rw [SR.out.1]; omega) R (by simp [← SR.out.1]) ?_
 go_wp2_with fail
 refine (FR.out _).mono ?_; rintro e w2 ⟨rfl,hc2⟩
 have al2:=hc2.row AL1.out id
 have ar2:=hc2.row AR1.out id
 have hw2:=W1.out.trans hc2 (fun _ => fEq)
 have AL2:=Lib.hid al2
 have AR2:=Lib.hid ar2
 have W2:=Lib.hid hw2
 clear hc2 al2 ar2 hw2
 go_wp2_with (first
  | ((with_reducible show zOq (.load 31 _)); refine wpList_gload_part (by first | rfl | (simp [Region.wanted]; done)) 31 _ rfl w.heap.size 34 rfl AL2.out Tryz.underlying31 rfl sizeP (by rw [SL.out.1]; omega) KL SL.out.2 ?_)
  | ((with_reducible show zOq (.load 31 _)); refine wpList_gload_part (by first | rfl | (simp [Region.wanted]; done)) 31 _ rfl (w.heap.size + 1) 34 rfl AR2.out Tryz.underlying31 rfl sizeP (by rw [SR.out.1]; omega) KR SR.out.2 ?_))
 refine (CM.out _).mono ?_; rintro e w3 ⟨rfl,hc3⟩
 have hw3:=W2.out.trans hc3 (fun _ => fEq)
 have W3:=Lib.hid hw3
 clear hc3 hw3
 go_wp2
 go_ret
 exact ⟨rfl,W3.out⟩
end Go.Proofs.YtmeglndnkdgkoaaGreat.Store

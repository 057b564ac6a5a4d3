/- Laws of the layers below. -/
import Derived.Test.YtmeglndnkdgkoaaGreatQf3
set_option maxHeartbeats 3200000
set_option maxRecDepth 100000
set_option linter.unusedVariables false
namespace Go.Proofs.YtmeglndnkdgkoaaGreat.ShaW
open Go.RowKit
theorem cell_d6 {w wq:World} (h:wq = w.drew.drew.drew.drew.drew.drew) {p:Addr} {v:Value} (hc:w.cell? p = some v):wq.cell? p = some v:=by subst h; exact hc
theorem RStep_ok {w:World} (h:List UInt32) (hh:h.length = 8) {g off cap:Nat} {b:List UInt8} (hb:Bytes w (.slice (some ⟨g,off,none⟩) 64 cap) b) :
 Calls Tryz.prog 238 #[.agg (wrow h),.slice (some ⟨g,off,none⟩) 64 cap] w fun e w' => e = .returned (.agg (wrow (Sha.step h b))) ∧ Ch (fun _ => False) w w':=by
 have HSC:=Lib.hid (fun w1 (a:Ch (fun _ => False) w w1) => rwords_ok (w:=w1) (hb.keep a (fun _ _ h => h)))
 have HKC:=Lib.hid rconstants_ok
 obtain ⟨Z,hZ⟩:∃ Z,zeroW 64 = Z:=⟨_,rfl⟩
 have z0:=zero64
 have hZs:Z.size = 64:=by rw [← hZ]; simp [zeroW]
 rw [hZ] at z0
 obtain ⟨Y,hY⟩:∃ Y,zeroW 8 = Y:=⟨_,rfl⟩
 have y0:=zero8
 have hYs:Y.size = 8:=by rw [← hY]; simp [zeroW]
 rw [hY] at y0
 obtain ⟨H,hH⟩:∃ H,wrow h = H:=⟨_,rfl⟩
 have hHs:H.size = 8:=by rw [← hH,wrow_size,hh]
 obtain ⟨S,hS⟩:∃ S,wrow (Sha.sched b) = S:=⟨_,rfl⟩
 have hSs:S.size = 64:=by rw [← hS,wrow_size,Sha.sched_length]
 have hS1:=wrow_one (Sha.sched b)
 obtain ⟨K,hK⟩:∃ K,wrow Sha.kc = K:=⟨_,rfl⟩
 have hKs:K.size = 64:=by rw [← hK,wrow_size]; rfl
 have hK1:=wrow_one Sha.kc
 have hH1:=wrow_one h
 rw [hS] at HSC
 rw [hK] at HKC
 rw [hH]
 rw [hS] at hS1
 rw [hK] at hK1
 rw [hH] at hH1
 have Z0:=(hIq z0 hZs)
 have Y0:=(hIq y0 hYs)
 have H0:=(hIq hH (aIq hHs hH1))
 have S0:=(hIq hS (aIq hSs hS1))
 have K0:=(hIq hK (aIq hKs hK1))
 have HH:=Lib.hid hh
 clear hZ z0 hZs hY y0 hYs hH hHs hH1 hS hSs hS1 hK hKs hK1 hh hb
 go_enter Tryz.func238,Tryz.ntmps238
 go_wp2_with (first
  | ((with_reducible show zOq (.alloc 285)); refine wpList_alloc_is rfl 285 rfl (.agg Y) Y0.out.1 ?_; dsimp only [Value.cells]; try simp only [World.size_alloc]))
 have hab:Ch (fun _ => False) w ((w.alloc (.cells H 285)).alloc (.cells Y 285)):=((Ch.refl _ _).alloc _).alloc _
 refine (HSC.out _ hab).mono ?_; rintro e w1 ⟨rfl,hc1⟩
 have e0:w1.heap[w.heap.size]? = some (.cells H 285 (0,0)):=hc1.row (row_alloc (heap_alloc_new _ _) _) id
 have e1:w1.heap[w.heap.size + 1]? = some (.cells Y 285 (0,0)):=by
  refine hc1.row ?_ id
  have:=heap_alloc_new (w.alloc (.cells H 285)) (.cells Y 285)
  simpa using this
 have s1:=hc1.size
 simp only [World.size_alloc] at s1
 have hw1:=hab.trans hc1 (fun _ => fEq)
 have E0:=(hIq e0 (aIq e1 hw1))
 clear hc1 e0 e1 hw1 hab HSC
 go_wp2_with (first
  | ((with_reducible show zOq (.alloc 301)); refine wpList_alloc_is rfl 301 rfl (.agg Z) Z0.out.1 ?_; dsimp only [Value.cells]; try simp only [World.size_alloc])
  | ((with_reducible show zOq (.store 301 _ _)); refine wpList_store_part rfl 301 _ _ rfl w1.heap.size 0 S rfl rfl (heap_alloc_new _ _) (by rw [size64,S0.out.2.1]) (by rw [S0.out.2.1,Z0.out.2]; omega) S0.out.2.2 S (by rw [splice_all _ _ (by rw [Array.length_toList,Array.length_toList,S0.out.2.1,Z0.out.2])]) ?_))
 obtain ⟨w2,hw2⟩:∃ w2,w2 = (w1.alloc (.cells Z 301)).setRow w1.heap.size S:=⟨_,rfl⟩
 rw [← hw2]
 have c2:Ch (fun _ => False) w1 w2:=by rw [hw2]; exact ((Ch.refl _ _).alloc _).setRow (.inr (Nat.le_refl _)) _
 have r5:w2.heap[w1.heap.size]? = some (.cells S 301 (0,0)):=by rw [hw2]; exact row_setRow_same (heap_alloc_new _ _) _
 have s2:w2.heap.size = w1.heap.size + 1:=by rw [hw2]; simp
 obtain ⟨B5,hB5⟩:∃ B,B = w1.heap.size:=⟨_,rfl⟩
 rw [← hB5] at r5 s2 s1 ⊢
 have E2:=(hIq (c2.row E0.out.1 id) (aIq (c2.row E0.out.2.1 id) (aIq (E0.out.2.2.trans c2 (fun _ => fEq)) r5)))
 clear hw2 c2 r5 hB5 E0
 refine (HKC.out _).mono ?_; rintro e w3 ⟨rfl,hc3⟩
 have s3:=hc3.size
 have E3:=(hIq (hc3.row E2.out.1 id) (aIq (hc3.row E2.out.2.1 id) (aIq (E2.out.2.2.1.trans hc3 (fun _ => fEq)) (hc3.row E2.out.2.2.2 id))))
 clear hc3 E2
 go_wp2_with (first
  | ((with_reducible show zOq (.alloc 301)); refine wpList_alloc_is rfl 301 rfl (.agg Z) Z0.out.1 ?_; dsimp only [Value.cells]; try simp only [World.size_alloc])
  | ((with_reducible show zOq (.store 301 _ _)); refine wpList_store_part rfl 301 _ _ rfl w3.heap.size 0 K rfl rfl (heap_alloc_new _ _) (by rw [size64,K0.out.2.1]) (by rw [K0.out.2.1,Z0.out.2]; omega) K0.out.2.2 K (by rw [splice_all _ _ (by rw [Array.length_toList,Array.length_toList,K0.out.2.1,Z0.out.2])]) ?_)
  | ((with_reducible show zOq (.load 285 _)); refine wpList_load_part rfl 285 _ rfl w.heap.size 0 rfl (row_setRow (row_alloc E3.out.1 _) (by omega) _) Tryz.underlying285 rfl size8 (by rw [H0.out.2.1]; omega) H (by simp [← H0.out.2.1]) ?_)
  | ((with_reducible show zOq (.alloc 285)); refine wpList_alloc_is rfl 285 rfl (.agg Y) Y0.out.1 ?_; dsimp only [Value.cells]; try simp only [World.size_alloc,size_setRow])
  | ((with_reducible show zOq (.store 285 _ _)); refine wpList_store_part rfl 285 _ _ rfl (w3.heap.size + 1) 0 H rfl rfl (by rw [heap_alloc_at]; simp) (by rw [size8,H0.out.2.1]) (by rw [H0.out.2.1,Y0.out.2]; omega) H0.out.2.2 H (by rw [splice_all _ _ (by rw [Array.length_toList,Array.length_toList,H0.out.2.1,Y0.out.2])]) ?_))
 go_loopg [8,9,10,11,12,13,14] 64 (fun gg s8 s9 s10 s11 s12 s13 s14 wr => ∃ k:Nat,k ≤ 64 ∧ gg = 64 - k ∧ s8 = .int .i64 k ∧ wr.heap[w3.heap.size + 1]? = some (.cells (wrow (Sha.rounds (Sha.sched b) h k)) 285 (0,0)) ∧
  wr.heap[B5]? = some (.cells S 301 (0,0)) ∧ wr.heap[w3.heap.size]? = some (.cells K 301 (0,0)) ∧ wr.heap[w.heap.size]? = some (.cells H 285 (0,0)) ∧
  wr.heap[w.heap.size + 1]? = some (.cells Y 285 (0,0)) ∧ Ch (fun _ => False) w wr)
 case atStart =>
  refine ⟨0,Nat.zero_le _,rfl,rfl,?_,?_,?_,?_,?_,?_⟩
  · show _ = some (Obj.cells (wrow h) _ _)
    rw [heap_setRow_eq,heap_alloc_at] <;> simp [H0.out.1,putRow]
  · exact row_setRow (row_alloc (row_setRow (row_alloc E3.out.2.2.2 _) (by omega) _) _) (by omega) _
  · rw [heap_setRow_ne,heap_alloc_lt,heap_setRow_eq,heap_alloc_at] <;> first | (simp [putRow]; done) | (simp; omega)
  · exact row_setRow (row_alloc (row_setRow (row_alloc E3.out.1 _) (by omega) _) _) (by omega) _
  · exact row_setRow (row_alloc (row_setRow (row_alloc E3.out.2.1 _) (by omega) _) _) (by omega) _
  have:=E3.out.2.2.1.size
  exact (((E3.out.2.2.1.alloc _).setRow (.inr (by omega)) _).alloc _).setRow (.inr (by omega)) _
 obtain ⟨k,hk,rfl,rfl,rv,rS,rK,rH,rY,hch⟩:=hrel
 by_cases hkl:k < 64
 · have hVl:=Sha.rounds_length (Sha.sched b) h HH.out k
   have hgs:=wrow_get (l:=Sha.sched b) (i:=k) (by rw [Sha.sched_length]; exact hkl)
   have hgk:=wrow_get (l:=Sha.kc) (i:=k) (by show k < 64; exact hkl)
   rw [S0.out.1] at hgs
   rw [K0.out.1] at hgk
   have hnx:Sha.rounds (Sha.sched b) h (k + 1) = Sha.round (Sha.kc.getD k 0) ((Sha.sched b).getD k 0) (Sha.rounds (Sha.sched b) h k):=rfl
   obtain ⟨V,hV⟩:∃ V,V = Sha.rounds (Sha.sched b) h k:=⟨_,rfl⟩
   rw [← hV] at hVl rv hnx
   have hrd:Sha.round (Sha.kc.getD k 0) ((Sha.sched b).getD k 0) V = Sha.round (Sha.kc.getD k 0) ((Sha.sched b).getD k 0) [V.getD 0 0,V.getD 1 0,V.getD 2 0,V.getD 3 0,V.getD 4 0,V.getD 5 0,V.getD 6 0,V.getD 7 0]:=rfl
   have c0:=row_cell rv (wrow_get (l:=V) (i:=0) (by omega))
   have c1:=row_cell rv (wrow_get (l:=V) (i:=1) (by omega))
   have c2:=row_cell rv (wrow_get (l:=V) (i:=2) (by omega))
   have c3:=row_cell rv (wrow_get (l:=V) (i:=3) (by omega))
   have c4:=row_cell rv (wrow_get (l:=V) (i:=4) (by omega))
   have c5:=row_cell rv (wrow_get (l:=V) (i:=5) (by omega))
   have c6:=row_cell rv (wrow_get (l:=V) (i:=6) (by omega))
   have c7:=row_cell rv (wrow_get (l:=V) (i:=7) (by omega))
   have cs:=row_cell rS hgs
   have ck:=row_cell rK hgk
   generalize V.getD 0 0 = v0 at c0 hrd
   generalize V.getD 1 0 = v1 at c1 hrd
   generalize V.getD 2 0 = v2 at c2 hrd
   generalize V.getD 3 0 = v3 at c3 hrd
   generalize V.getD 4 0 = v4 at c4 hrd
   generalize V.getD 5 0 = v5 at c5 hrd
   generalize V.getD 6 0 = v6 at c6 hrd
   generalize V.getD 7 0 = v7 at c7 hrd
   generalize (Sha.sched b).getD k 0 = xs at cs hrd hnx
   generalize Sha.kc.getD k 0 = xk at ck hrd hnx
   have hk1:(k:Int) ≤ 63:=by omega
   have hk2:k ≤ 63:=by omega
   have hk3:(k:Int) < 64:=by omega
   have HN:=Lib.hid (hnx.trans hrd)
   have HVL:=Lib.hid hVl
   have RV:=Lib.hid rv
   have RS:=Lib.hid rS
   have RK:=Lib.hid rK
   have RH:=Lib.hid rH
   have RY:=Lib.hid rY
   have HC:=Lib.hid hch
   clear hnx hrd hVl rv rS rK rH rY hch hV hgs hgk
   go_wp2_with fail
   refine (turned6 v4 _).mono ?_; rintro e u1 ⟨rfl,rfl⟩
   go_wp2_with fail
   refine (turned11 v4 _).mono ?_; rintro e u2 ⟨rfl,rfl⟩
   go_wp2_with fail
   refine (turned25 v4 _).mono ?_; rintro e u3 ⟨rfl,rfl⟩
   go_wp2_with fail
   refine (turned2 v0 _).mono ?_; rintro e u4 ⟨rfl,rfl⟩
   go_wp2_with fail
   refine (turned13 v0 _).mono ?_; rintro e u5 ⟨rfl,rfl⟩
   go_wp2_with fail
   refine (turned22 v0 _).mono ?_; rintro e u6 ⟨rfl,rfl⟩
   go_wp2
   obtain ⟨wq,hwq⟩:∃ wq,wq = wr.drew.drew.drew.drew.drew.drew:=⟨_,rfl⟩
   rw [← hwq]
   replace c0:=cell_d6 hwq c0
   replace c1:=cell_d6 hwq c1
   replace c2:=cell_d6 hwq c2
   replace c3:=cell_d6 hwq c3
   replace c4:=cell_d6 hwq c4
   replace c5:=cell_d6 hwq c5
   replace c6:=cell_d6 hwq c6
   replace c7:=cell_d6 hwq c7
   replace cs:=cell_d6 hwq cs
   replace ck:=cell_d6 hwq ck
   have HWq:=Lib.hid hwq
   clear hwq
   go_quiet (fail)
   obtain ⟨wz,hwz⟩:∃ wz,wz = wq.drewN nq:=⟨_,rfl⟩
   rw [← hwz]
   replace c0:=cell_q hwz c0
   replace c1:=cell_q hwz c1
   replace c2:=cell_q hwz c2
   replace c3:=cell_q hwz c3
   replace c4:=cell_q hwz c4
   replace c5:=cell_q hwz c5
   replace c6:=cell_q hwz c6
   replace c7:=cell_q hwz c7
   have HWwz:=Lib.hid hwz
   clear hwz
   have RVZ:Hid (wz.heap[w3.heap.size + 1]? = some (.cells (wrow V) 285 (0,0))):=by show _ = _; rw [HWwz.out,HWq.out]; exact RV.out
   have HCZ:Hid (Ch (fun _ => False) w wz):=by show Ch _ _ _; rw [HWwz.out,HWq.out]; exact HC.out.drew.drew.drew.drew.drew.drew.drewN _
   have HVW:Hid ((wrow V).size = 8):=by show _ = _; rw [wrow_size,HVL.out]
   go_wp2_with (first
    | ((with_reducible show zOq (.store 285 _ _)); refine wpList_store_part rfl 285 _ _ rfl (w3.heap.size + 1) 0 _ rfl rfl RVZ.out (by rw [size8]; rfl) (by rw [HVW.out]; exact Nat.le_refl _) (by intro v hv; simp at hv; rcases hv with rfl | rfl | rfl | rfl | rfl | rfl | rfl | rfl <;> rfl) _ (by rw [splice_all _ _ (by rw [Array.length_toList,Array.length_toList,HVW.out]; rfl)]) ?_))
   go_roundg (64 - (k + 1))
   case measure => omega
   have s3':=E3.out.2.2.1.size
   have aux:∀ {j:Nat} {o:Obj},wr.heap[j]? = some o → j ≠ w3.heap.size + 1 → wz.heap[j]? = some o:=fun {j o} hj _ => by rw [HWwz.out,HWq.out]; exact hj
   refine ⟨k + 1,by omega,rfl,by go_num,?_,row_setRow (by rw [HWwz.out,HWq.out]; exact RS.out) (by omega) _,row_setRow (by rw [HWwz.out,HWq.out]; exact RK.out) (by omega) _,row_setRow (by rw [HWwz.out,HWq.out]; exact RH.out) (by omega) _,row_setRow (by rw [HWwz.out,HWq.out]; exact RY.out) (by omega) _,HCZ.out.setRow (.inr (by omega)) _⟩
   rw [row_setRow_same RVZ.out,HN.out,sum5,sum5']
   rfl
 have h64:k = 64:=by omega
 rw [h64] at rv
 have hd:¬ (k:Int) < 64:=by omega
 have hVl:=Sha.rounds_length (Sha.sched b) h HH.out 64
 have hst:Sha.step h b = List.zipWith (· + ·) h (Sha.rounds (Sha.sched b) h 64):=rfl
 obtain ⟨V,hV⟩:∃ V,V = Sha.rounds (Sha.sched b) h 64:=⟨_,rfl⟩
 rw [← hV] at rv hVl hst
 rw [← H0.out.1] at rH
 obtain ⟨wo,hwo⟩:∃ wo:World,wo = wr:=⟨_,rfl⟩
 subst hwo
 have HST:=Lib.hid hst
 have HVL:=Lib.hid hVl
 have RV:=Lib.hid rv
 have RH:=Lib.hid rH
 have RY:=Lib.hid rY
 have HC:=Lib.hid hch
 clear hst hVl rv rS rK rH rY hch hV h64 hkl
 go_wp2
 go_loopg [15] 8 (fun gg s15 wr => ∃ i:Nat,i ≤ 8 ∧ gg = 8 - i ∧ s15 = .int .i64 i ∧ wr.heap[w.heap.size]? = some (.cells (wrow (added h V i)) 285 (0,0)) ∧
  wr.heap[w3.heap.size + 1]? = some (.cells (wrow V) 285 (0,0)) ∧ wr.heap[w.heap.size + 1]? = some (.cells Y 285 (0,0)) ∧ Ch (fun _ => False) w wr)
 case atStart => exact ⟨0,Nat.zero_le _,rfl,rfl,RH.out,RV.out,RY.out,HC.out⟩
 obtain ⟨i,hi,rfl,rfl,rh,rv,rY,hch⟩:=hrel
 by_cases hil:i < 8
 · have hal:=added_length h V i (by rw [HVL.out,HH.out]) (by rw [HH.out]; omega)
   have c1:=row_cell rh (wrow_get (l:=added h V i) (i:=i) (by rw [hal,HH.out]; exact hil))
   have c2:=row_cell rv (wrow_get (l:=V) (i:=i) (by rw [HVL.out]; exact hil))
   rw [added_get h V i (by rw [HVL.out,HH.out]) (by rw [HH.out]; exact hil)] at c1
   have hsu:=added_succ h V i (by rw [HVL.out,HH.out]) (by rw [HH.out]; exact hil)
   generalize h.getD i 0 = x1 at c1 hsu
   generalize V.getD i 0 = x2 at c2 hsu
   have cf:=row_free rh i
   have cl:=row_lt rh
   have hi1:(i:Int) ≤ 7:=by omega
   have hi2:i ≤ 7:=by omega
   have hi3:(i:Int) < 8:=by omega
   have HSU:=Lib.hid hsu
   have RH2:=Lib.hid rh
   have RV2:=Lib.hid rv
   have RY2:=Lib.hid rY
   have HC2:=Lib.hid hch
   clear hal hsu rh rv rY hch
   go_wp2
   go_still_tail 8,(by kernel_rfl)
   show wpList _ _ _ _ _ wr.drew
   go_wp2
   go_roundg (8 - (i + 1))
   case measure => omega
   have hws:=E3.out.2.2.1.size
   refine ⟨i + 1,by omega,rfl,by go_num,?_,?_,?_,(HC2.out.setCell (p:=⟨w.heap.size,i,none⟩) (.inr (Nat.le_refl _)) _).drew⟩
   · refine row_drew ?_
     have:=row_set_same RH2.out i (wv (wa x1 x2))
     rw [this,wrow_set,HSU.out]
     rfl
   · exact row_drew (row_set RV2.out (by simp only [ne_eq]; omega) _)
   exact row_drew (row_set RY2.out (by simp only [ne_eq]; omega) _)
 have h8:i = h.length:=by rw [HH.out]; omega
 have hd8:¬ (i:Int) < 8:=by omega
 rw [h8,added_all h V (by rw [HVL.out,HH.out]), ← HST.out] at rh
 have hsl:=Sha.step_length h b HH.out
 obtain ⟨R,hR⟩:∃ R,wrow (Sha.step h b) = R:=⟨_,rfl⟩
 have hRs:R.size = 8:=by rw [← hR,wrow_size,hsl]
 have hR1:=wrow_one (Sha.step h b)
 rw [hR] at rh hR1
 have HR:=(hIq hR (aIq hRs hR1))
 have RH2:=Lib.hid rh
 have RY2:=Lib.hid rY
 have HC2:=Lib.hid hch
 clear h8 hsl hR hRs hR1 rh rv rY hch hil
 go_wp2_with (first
  | ((with_reducible show zOq (.load 285 _)); refine wpList_load_part rfl 285 _ rfl w.heap.size 0 rfl RH2.out Tryz.underlying285 rfl size8 (by rw [HR.out.2.1]; omega) R (by simp [← HR.out.2.1]) ?_)
  | ((with_reducible show zOq (.store 285 _ _)); refine wpList_store_part rfl 285 _ _ rfl (w.heap.size + 1) 0 R rfl rfl RY2.out (by rw [size8,HR.out.2.1]) (by rw [HR.out.2.1,Y0.out.2]; omega) HR.out.2.2 R (by rw [splice_all _ _ (by rw [Array.length_toList,Array.length_toList,HR.out.2.1,Y0.out.2])]) ?_))
 exact bodyPost_ret_cell1 (p:=4) rfl rfl (row_setRow_same RY2.out _) Tryz.underlying285 rfl (by rw [size8,HR.out.2.1]) rfl ⟨by rw [HR.out.1],HC2.out.setRow (.inr (by omega)) _⟩
end Go.Proofs.YtmeglndnkdgkoaaGreat.ShaW
namespace Go.Proofs.YtmeglndnkdgkoaaGreat.SlabN
open Go.RowKit
abbrev At (ok:Value → Prop):=SlabAt 236 3 192 103 ok
theorem New_bad (n:Int) (w:World) (h:n < 1 ∨ 65536 < n) :
 Calls Tryz.prog 59 #[.int .i64 n] w fun e w' => e = .returned (.tuple #[.pointer none,.int .i64 2]) ∧ w = w':=by
 by_cases h1:n < 1
 · go_enter Tryz.func59,Tryz.ntmps59
   go_wp2
   go_ret2
   exact ⟨rfl,rfl⟩
 have h2:65536 < n:=by omega
 go_enter Tryz.func59,Tryz.ntmps59
 go_wp2
 go_ret2
 exact ⟨rfl,rfl⟩
theorem New_mem (n:Int) (w:World) (h1:1 ≤ n) (h2:n ≤ 65536) :
 Calls Tryz.prog 59 #[.int .i64 n] w fun e w' => e = .returned (.tuple #[.pointer (some ⟨w.heap.size,0,none⟩),.int .i64 0]) ∧ w' = w.alloc (.cells #[.slice none 0 0,.slice none 0 0,.int .i64 n,.int .i64 0] 192):=by
 go_enter Tryz.func59,Tryz.ntmps59
 go_wp2
 go_ret2
 exact ⟨rfl,rfl⟩
theorem none_no (w:World) (a:Nat) (room:Int) (ha2:w.cell? ⟨a,2,none⟩ = some (.int .i64 room)) (hroom:1 ≤ room) :
 Calls Tryz.prog 179 #[.pointer (some ⟨a,0,none⟩)] w fun e w' => e = .returned (.bool false) ∧ w = w':=by
 go_enter Tryz.func179,Tryz.ntmps179
 go_wp2
 go_ret
 exact ⟨by simp; omega,rfl⟩
theorem at_some (w:World) (a g len cap m c:Nat) (room:Int) (ha0:w.cell? ⟨a,0,none⟩ = some (.slice (some ⟨g,0,none⟩) len cap)) (ha2:w.cell? ⟨a,2,none⟩ = some (.int .i64 room)) (hroom:1 ≤ room)
 (hm:m < len) (hl:len ≤ 65536) (hc:w.cell? ⟨g,m * 104 + 103,none⟩ = some (.int .i64 c)) (hc0:1 ≤ c) :
 Calls Tryz.prog 180 #[.pointer (some ⟨a,0,none⟩),.int .i64 (m + 1)] w fun e w' => e = .returned (.pointer (some ⟨g,m * 104,none⟩)) ∧ w = w':=by
 have hc1:(((c:Nat):Int) == 0) = false:=by simp; omega
 have hr1:(room == 0) = false:=by simp; omega
 go_enter Tryz.func180,Tryz.ntmps180
 go_wp2_with (go_at_call 179; refine (none_no _ _ _ (by go_simp) hroom).mono ?_; rintro e w1 ⟨rfl,rfl⟩)
 go_ret
 exact ⟨rfl,rfl⟩
theorem at_out (w:World) (a len cap:Nat) (ao:Option Addr) (n room:Int) (ha0:w.cell? ⟨a,0,none⟩ = some (.slice ao len cap)) (ha2:w.cell? ⟨a,2,none⟩ = some (.int .i64 room)) (hroom:1 ≤ room)
 (hn:n < 1 ∨ (len:Int) < n) (hl:len ≤ 65536) :
 Calls Tryz.prog 180 #[.pointer (some ⟨a,0,none⟩),.int .i64 n] w fun e w' => e = .returned (.pointer none) ∧ w = w':=by
 have hr1:(room == 0) = false:=by simp; omega
 by_cases h1:n < 1
 · clear hn
   go_enter Tryz.func180,Tryz.ntmps180
   go_wp2_with (go_at_call 179; refine (none_no _ _ _ (by go_simp) hroom).mono ?_; rintro e w1 ⟨rfl,rfl⟩)
   go_ret
   exact ⟨rfl,rfl⟩
 have h2:(len:Int) < n:=by omega
 clear hn
 go_enter Tryz.func180,Tryz.ntmps180
 go_wp2_with (go_at_call 179; refine (none_no _ _ _ (by go_simp) hroom).mono ?_; rintro e w1 ⟨rfl,rfl⟩)
 go_ret
 exact ⟨rfl,rfl⟩
theorem at_free (w:World) (a g len cap m:Nat) (room:Int) (ha0:w.cell? ⟨a,0,none⟩ = some (.slice (some ⟨g,0,none⟩) len cap)) (ha2:w.cell? ⟨a,2,none⟩ = some (.int .i64 room)) (hroom:1 ≤ room)
 (hm:m < len) (hl:len ≤ 65536) (hc:w.cell? ⟨g,m * 104 + 103,none⟩ = some (.int .i64 0)) :
 Calls Tryz.prog 180 #[.pointer (some ⟨a,0,none⟩),.int .i64 (m + 1)] w fun e w' => e = .returned (.pointer none) ∧ w = w':=by
 have hr1:(room == 0) = false:=by simp; omega
 go_enter Tryz.func180,Tryz.ntmps180
 go_wp2_with (go_at_call 179; refine (none_no _ _ _ (by go_simp) hroom).mono ?_; rintro e w1 ⟨rfl,rfl⟩)
 go_ret
 exact ⟨rfl,rfl⟩
theorem slot_mem {ok:Value → Prop} (hok:OkT ok 103) {w:World} {a:Nat} {F:Nat → Prop} {σ:SlabSt} (h:At ok w a F σ) {m:Nat} {s:Value × Nat} (hs:σ.slots[m]? = some s) :
 ∃ g cap cur vf,w.heap[a]? = some (.cells #[.slice (some ⟨g,0,none⟩) σ.slots.length cap,vf,.int .i64 σ.room,.int .i64 σ.used] 192 (0,0)) ∧
  w.heap[g]? = some (.cells cur 236 (0,0)) ∧ σ.slots.length ≤ cap ∧ cap ≤ maxLen ∧ cur.size = cap * 104 ∧ cur.toList.take (σ.slots.length * 104) = SlabSt.flat σ.slots ∧ m < σ.slots.length ∧
  w.ownsRow 0 3 1 vf σ.free.length (σ.free.map fun n => Value.int .i64 (n:Nat)) ∧ F a ∧ F g ∧ g ≠ a ∧ (∀ k,vf.ownBlock = some k → F k ∧ k ≠ a ∧ g ≠ k) ∧ (∀ k,F k → k < w.heap.size) ∧
  cur[m * 104 + 103]? = some (.int .i64 s.2) ∧ (cur.toList.drop (m * 104)).take 103 = s.1.cells.toList:=by
 obtain ⟨h0,vs,vf,h1,h2,h3,h4,h5,h6,h7⟩:=h
 have hm:=(List.getElem?_eq_some_iff.1 hs).1
 obtain ⟨g,cap,cur,rfl,hg,hc1,hc2,hc3,hc4⟩:=owns_block h2 (by omega)
 have hsz:∀ s ∈ σ.slots,s.1.cells.size = 103:=fun s hs => hok.size _ (h0.things s hs)
 have hf5:=h5 g rfl
 refine ⟨g,cap,cur,vf,h1,hg,hc1,hc2,hc3,hc4,hm,h3,h4,hf5.1,hf5.2,fun k hk => ⟨(h6 k hk).1,(h6 k hk).2.1,fun e => (h6 k hk).2.2 (by simp [Value.ownBlock,e])⟩,h7,?_,?_⟩
 · exact take_get hc4 (SlabSt.flat_count hsz hs)
 have:=SlabSt.flat_thing hsz hs
 rw [← hc4] at this
 rw [← this,List.drop_take,List.take_take,Nat.min_eq_left]
 have:(m + 1) * 104 ≤ σ.slots.length * 104:=Nat.mul_le_mul_right _ hm
 omega
noncomputable def zero:Value:=((Tryz.prog.info? 123).bind (·.zero)).getD undef
theorem zero_is:(Tryz.prog.info? 123).bind (·.zero) = some zero:=by kernel_rfl
noncomputable def cleared:Array Value:=(Tryz.prog.built 236 []).getD #[]
theorem cleared_is:Tryz.prog.built 236 [] = some cleared:=by kernel_rfl
theorem cleared_eq:cleared.toList = zero.cells.toList ++ [.int .i64 (0:Nat)]:=by kernel_rfl
def OkV (v:Value):Prop := ∃ cs:Array Value,v = .agg cs ∧ cs.size = 103 ∧ ∀ c ∈ cs.toList,c.oneCell' = true
theorem okV:OkT OkV 103 where
 size:=fun v ⟨cs,h,h1,_⟩ => by subst h; exact h1
 one:=fun v ⟨cs,h,_,h2⟩ => by subst h; exact h2
theorem zero_ok:OkV zero:=⟨zero.cells,by kernel_rfl,by kernel_rfl,fun c hc => List.all_eq_true.1 (by kernel_rfl:zero.cells.toList.all (·.oneCell') = true) c hc⟩
theorem size_is:(Tryz.prog.info? 123).map (·.size) = some 103:=by kernel_rfl
theorem zero_size:zero.cells.size = 103:=okV.size _ zero_ok
attribute [irreducible] zero cleared
theorem slot_size:(Tryz.prog.info? 236).map (·.size) = some 104:=by kernel_rfl
abbrev Adds (w w':World):Prop:=Ch (fun _ => False) w w'
def Moved (w w':World) (a:Nat) (F:Nat → Prop) (σ:SlabSt):Prop := ∃ F',At OkV w' a F' σ ∧ Ch F w w' ∧ ∀ k,F' k → F k ∨ w.heap.size ≤ k
theorem New_ok (n:Nat) (w:World) (h1:1 ≤ n) (h2:n ≤ 65536):Calls Tryz.prog 59 #[.int .i64 n] w fun e w' => e = .returned (.tuple #[.pointer (some ⟨w.heap.size,0,none⟩),.int .i64 0]) ∧
 At OkV w' w.heap.size (fun k => k = w.heap.size) ⟨n,[],[]⟩ ∧ Adds w w' ∧ w'.heap.size = w.heap.size + 1:=by
 refine (New_mem n w (by omega) (by omega)).mono ?_
 rintro e w' ⟨rfl,rfl⟩
 refine ⟨rfl,⟨SlabSt.WF.empty _ n h1 h2,_,_,heap_alloc_new _ _,World.ownsRow_nil ..,World.ownsRow_nil ..,rfl,?_,?_,?_⟩,(Ch.refl _ _).alloc _,by simp⟩
 · simp [Value.ownBlock]
 · simp [Value.ownBlock]
 rintro k rfl; simp
theorem at_no {ok:Value → Prop} (hok:OkT ok 103) {w:World} {a:Nat} {F:Nat → Prop} {σ:SlabSt} (h:At ok w a F σ) {n:Int} (hn:σ.get? n = none) :
 Calls Tryz.prog 180 #[.pointer (some ⟨a,0,none⟩),.int .i64 n] w fun e w' => e = .returned (.pointer none) ∧ w = w':=by
 have hr:=h.1.room
 have hl:=h.1.len
 have h':=h
 obtain ⟨h0,vs,vf,h1,h2,h3,h4,h5,h6,h7⟩:=h
 obtain ⟨ao,cap,rfl⟩:=owns_form h2
 obtain ⟨c0,c1,c2,c3,fz,hlt⟩:=row4 h1
 rcases SlabSt.get?_none hn with hn | ⟨m,rfl,hm | ⟨v,hv⟩⟩
 · exact at_out w a _ cap ao n σ.room c0 c2 (by omega) (.inl hn) (by omega)
 · exact at_out w a _ cap ao _ σ.room c0 c2 (by omega) (.inr (by omega)) (by omega)
 obtain ⟨g,cap',cur,vf',e1,e2,_,_,_,_,hm,_,_,_,_,_,_,hc,_⟩:=slot_mem hok h' hv
 obtain ⟨d0,d1,d2,d3,_,_⟩:=row4 e1
 exact at_free w a g _ cap' m σ.room d0 d2 (by omega) hm (by omega) (row_cell e2 hc)
theorem Count_ok {w:World} {a:Nat} {F:Nat → Prop} {σ:SlabSt} (h:At OkV w a F σ) (n:Int) :
 Calls Tryz.prog 182 #[.pointer (some ⟨a,0,none⟩),.int .i64 n] w fun e w' => e = .returned (.int .i64 (σ.count n)) ∧ w = w':=by
 have hr:=h.1.room
 have hl:=h.1.len
 cases hs:σ.get? n with
 | none =>
  have hcnt:σ.count n = 0:=by simp [SlabSt.count,hs]
  rw [hcnt]
  have HS:=Lib.hid hs
  go_enter Tryz.func182,Tryz.ntmps182
  go_wp2_with (go_at_call 180; refine (at_no okV h HS.out).mono ?_; rintro e w1 ⟨rfl,rfl⟩)
  go_ret
  exact ⟨rfl,rfl⟩
 | some s =>
  have hcnt:σ.count n = s.2:=by simp [SlabSt.count,hs]
  rw [hcnt]
  obtain ⟨m,rfl,hs',h0,_⟩:=SlabSt.get?_some hs
  obtain ⟨g,cap,cur,vf,e1,e2,_,_,_,_,hm,_,_,_,_,_,_,hc,_⟩:=slot_mem okV h hs'
  obtain ⟨d0,d1,d2,d3,fz,hlt⟩:=row4 e1
  have hcc:=row_cell e2 hc
  clear e1 e2 hc hs hs' hcnt
  go_enter Tryz.func182,Tryz.ntmps182
  go_wp2_with (go_at_call 180; refine (at_some _ _ g _ cap m s.2 σ.room (by go_simp) (by go_simp) (by omega) hm (by omega) (by go_simp) (by omega)).mono ?_; rintro e w1 ⟨rfl,rfl⟩)
  go_ret
  exact ⟨rfl,rfl⟩
theorem Len_ok {w:World} {a:Nat} {F:Nat → Prop} {σ:SlabSt} (h:At OkV w a F σ) :
 Calls Tryz.prog 127 #[.pointer (some ⟨a,0,none⟩)] w fun e w' => e = .returned (.int .i64 σ.used) ∧ w = w':=by
 have hr:=h.1.room
 obtain ⟨h0,vs,vf,h1,_⟩:=h
 obtain ⟨c0,c1,c2,c3,fz,hlt⟩:=row4 h1
 go_enter Tryz.func127,Tryz.ntmps127
 go_wp2_with (go_at_call 179; refine (none_no _ _ (σ.room:Int) (by go_simp) (by omega)).mono ?_; rintro e w1 ⟨rfl,rfl⟩)
 go_ret
 exact ⟨rfl,rfl⟩
theorem Room_ok {w:World} {a:Nat} {F:Nat → Prop} {σ:SlabSt} (h:At OkV w a F σ) :
 Calls Tryz.prog 160 #[.pointer (some ⟨a,0,none⟩)] w fun e w' => e = .returned (.int .i64 σ.room) ∧ w = w':=by
 have hr:=h.1.room
 obtain ⟨h0,vs,vf,h1,_⟩:=h
 obtain ⟨c0,c1,c2,c3,fz,hlt⟩:=row4 h1
 go_enter Tryz.func160,Tryz.ntmps160
 go_wp2_with (go_at_call 179; refine (none_no _ _ (σ.room:Int) (by go_simp) (by omega)).mono ?_; rintro e w1 ⟨rfl,rfl⟩)
 go_ret
 exact ⟨rfl,rfl⟩
theorem Hold_ok {w:World} {a:Nat} {F:Nat → Prop} {σ:SlabSt} (h:At OkV w a F σ) (n:Int) :
 Calls Tryz.prog 136 #[.pointer (some ⟨a,0,none⟩),.int .i64 n] w fun e w' => e = .returned (.int .i64 (σ.hold n).1) ∧ Moved w w' a F (σ.hold n).2:=by
 have hr:=h.1.room
 have hl:=h.1.len
 cases hs:σ.get? n with
 | none =>
  have hcnt:σ.hold n = (7,σ):=by simp [SlabSt.hold,hs]
  rw [hcnt]
  have HS:=Lib.hid hs
  clear hs hcnt
  have h':=h
  obtain ⟨h0,vs,vf,h1,_⟩:=h'
  obtain ⟨c0,c1,c2,c3,fz,hlt⟩:=row4 h1
  go_enter Tryz.func136,Tryz.ntmps136
  go_wp2_with (first | (go_at_call 179; refine (none_no _ _ (σ.room:Int) (by go_simp) (by omega)).mono ?_; rintro e w1 ⟨rfl,rfl⟩) | (go_at_call 180; refine (at_no okV h HS.out).mono ?_; rintro e w1 ⟨rfl,rfl⟩))
  go_ret
  exact ⟨rfl,F,h,Ch.refl _ _,fun k hk => .inl hk⟩
 | some s =>
  obtain ⟨m,rfl,hs',h0,_⟩:=SlabSt.get?_some hs
  have hle:=h.1.counts s (List.mem_of_getElem? hs')
  obtain ⟨g,cap,cur,vf,e1,e2,b1,b2,b3,b4,hm,o1,f1,f2,f3,f4,f5,hc,ht⟩:=slot_mem okV h hs'
  obtain ⟨d0,d1,d2,d3,fz,hlt⟩:=row4 e1
  have hcc:=row_cell e2 hc
  have hlg:=row_lt e2
  have hfg:=row_free e2 (m * 104 + 103)
  have hwf:=h.1
  by_cases hmax:s.2 = 1073741824
  · have hcnt:σ.hold (m + 1) = (4,σ):=by simp [SlabSt.hold,hs,hmax]
    rw [hcnt]
    have hb:(((s.2:Nat):Int) == 1073741824) = true:=by simp [hmax]
    clear hs hs' hcnt hmax hle ht b4 e1 e2 hc
    go_enter Tryz.func136,Tryz.ntmps136
    go_wp2_with (first | (go_at_call 179; refine (none_no _ _ (σ.room:Int) (by go_simp) (by omega)).mono ?_; rintro e w1 ⟨rfl,rfl⟩) | (go_at_call 180; refine (at_some _ _ g _ cap m s.2 σ.room (by go_simp) (by go_simp) (by omega) hm (by omega) (by go_simp) (by omega)).mono ?_; rintro e w1 ⟨rfl,rfl⟩))
    go_ret
    exact ⟨rfl,F,h,Ch.refl _ _,fun k hk => .inl hk⟩
  have hcnt:σ.hold (m + 1) = (0, { σ with slots:=σ.slots.set m (s.1,s.2 + 1) }):=by
   simp only [SlabSt.hold,hs,if_neg hmax,SlabSt.setAt]
   rw [show ((m:Int) + 1 - 1).toNat = m by omega]
  rw [hcnt]
  have hb:(((s.2:Nat):Int) == 1073741824) = false:=by simp; omega
  have HW:Hid (SlabSt.WF OkV { σ with slots:=σ.slots.set m (s.1,s.2 + 1) }):=hwf.set hs' h0 (hwf.things s (List.mem_of_getElem? hs')) (by simp; omega) (by simp)
  have HF:Hid ((SlabSt.flat σ.slots).set (m * 104 + 103) (.int .i64 (s.2 + 1:Nat)) = SlabSt.flat (σ.slots.set m (s.1,s.2 + 1))):=SlabSt.flat_set_count (fun x hx => okV.size _ (hwf.things x hx)) hs' _
  have HB:=Lib.hid b4
  have E1:=Lib.hid e1
  have E2:=Lib.hid e2
  clear hs hs' hcnt hmax ht b4 e1 e2 hc hwf h
  go_enter Tryz.func136,Tryz.ntmps136
  go_wp2_with (first | (go_at_call 179; refine (none_no _ _ (σ.room:Int) (by go_simp) (by omega)).mono ?_; rintro e w1 ⟨rfl,rfl⟩) | (go_at_call 180; refine (at_some _ _ g _ cap m s.2 σ.room (by go_simp) (by go_simp) (by omega) hm (by omega) (by go_simp) (by omega)).mono ?_; rintro e w1 ⟨rfl,rfl⟩))
  go_ret
  refine ⟨rfl,F,SlabAt.make HW.out (row_set (p:=⟨g,m * 104 + 103,none⟩) E1.out (Ne.symm f3) _) rfl (by simp [SlabSt.used]) ?_ ((Ch.setCell (F:=fun k => k = g) (Ch.refl _ _) (.inl rfl) _).owns o1 (fun k hk e => (f4 k hk).2.2 e.symm)) f1 ?_ ?_ (by simpa using f5),(Ch.refl _ _).setCell (.inl f2) _,fun k hk => .inl hk⟩
  · have:=row_set_same E2.out (m * 104 + 103) (.int .i64 (s.2 + 1:Nat))
    simp only [List.length_set]
    refine owns_mk this b1 b2 (by simpa using b3) ?_
    rw [Array.toList_setIfInBounds,List.take_set,HB.out,HF.out]
  · simpa [Value.ownBlock] using ⟨f2,f3⟩
  simpa [Value.ownBlock] using f4
end Go.Proofs.YtmeglndnkdgkoaaGreat.SlabN

/- Laws of the layers below. -/
import Derived.Test.YtmeglndnkdgkoaaGreatQf26
import Derived.Deep.OwnRows
set_option maxHeartbeats 3200000
set_option maxRecDepth 100000
set_option linter.unusedVariables false
namespace Go.Proofs.YtmeglndnkdgkoaaGreat.Store
open Go.RowKit Go.Proofs.YtmeglndnkdgkoaaGreat.ShaW Go.Proofs.YtmeglndnkdgkoaaGreat.Path Go.Proofs.YtmeglndnkdgkoaaGreat.Law9
def mark (i:Nat):UInt8:=UInt8.ofNat (200 + i % 50)
def marks (n k:Nat):List UInt8:=(List.range k).map fun i => mark (n + i)
theorem marks_length (n k:Nat):(marks n k).length = k:=by simp [marks]
def lentL (bs:List UInt8) (k:Nat):List UInt8:=bs ++ (marks bs.length k ++ List.replicate (5 - k) 0)
theorem lentL_length (bs:List UInt8) {k:Nat} (hk:k ≤ 5):(lentL bs k).length = bs.length + 5:=by simp [lentL,marks_length]; omega
theorem lentL_set (bs:List UInt8) {k:Nat} (hk:k < 5):(lentL bs k).set (bs.length + k) (mark (bs.length + k)) = lentL bs (k + 1):=by
 unfold lentL
 rw [List.set_append_right _ _ (by omega),show bs.length + k - bs.length = k by omega]
 rw [List.set_append_right _ _ (by rw [marks_length]; omega),marks_length,Nat.sub_self]
 rw [show 5 - k = (5 - (k + 1)) + 1 by omega,List.replicate_succ,List.set_cons_zero]
 rw [show marks bs.length (k + 1) = marks bs.length k ++ [mark (bs.length + k)] by simp [marks,List.range_succ]]
 rw [List.append_assoc]
 rfl
def lent (bs:List UInt8):List UInt8:=bs ++ marks bs.length 5
theorem lent_is (bs:List UInt8):lentL bs 5 = lent bs:=by simp [lentL,lent]
theorem lent_length (bs:List UInt8):(lent bs).length = bs.length + 5:=by simp [lent,marks_length]
theorem mark_nat (i:Nat):((mark i).toNat:Int) = 200 + (i % 50:Nat):=by
 unfold mark
 have:i % 50 < 50:=Nat.mod_lt _ (by omega)
 rw [UInt8.toNat_ofNat']
 rw [Nat.mod_eq_of_lt (by omega)]
 omega
theorem madeCells_bytes (k:Nat):madeCells #[Value.int .u8 0] k = brow (List.replicate k 0):=by
 rw [← zero_bytes k]
 have e:k * (#[Value.int .u8 0]:Array Value).size = k:=Nat.mul_one k
 delta madeCells Builtin.zeroCells
 rw [e]
theorem LentBytes_ok {w:World} {v:Value} {bs:List UInt8} (hb:Bytes w v bs) (hl:bs.length ≤ 4000) :
 Calls Tryz.prog 60 #[v] w fun e w' => e = .returned (.slice (some ⟨w.heap.size,0,none⟩) bs.length (bs.length + 5)) ∧ w'.heap[w.heap.size]? = some (.cells (brow (lent bs)) 5 (0,0)) ∧ Adds w w':=by
 obtain ⟨ao,cap,rfl,hcap,hcm,hat⟩:=hb
 obtain ⟨n,hn⟩:∃ n,n = bs.length:=⟨_,rfl⟩
 have hmk:∀ w:World,(Instr.makeSlice 32 (.int .i64 ((n:Int) + 5)) (.int .i64 ((n:Int) + 5))).run Tryz.prog w = .ok (.slice (some ⟨w.heap.size,0,none⟩) (n + 5) (n + 5)) (w.alloc (.cells (madeCells #[.int .u8 0] (n + 5)) 5)):=fun w => by
  have:=run_make_row' (P:=Tryz.prog) 32 5 (.int .u8 0) 1 Tryz.underlying32 (by kernel_rfl) rfl .i64 .i64 (n + 5) (by omega) (by omega) w
  push_cast at this
  exact this
 have hw5:IntKind.i64.wrap ((n:Int) + 5) = (n:Int) + 5:=IntWalk.i64_in _ (by omega)
 have hmc:madeCells #[Value.int .u8 0] (n + 5) = brow (List.replicate (n + 5) 0):=madeCells_bytes _
 rw [hmc] at hmk
 obtain ⟨MC,hMC⟩:∃ MC,MC = brow (List.replicate (n + 5) 0):=⟨_,rfl⟩
 rw [← hMC] at hmk
 have hMs:MC.size = n + 5:=by rw [hMC,brow_size,List.length_replicate]
 obtain ⟨L0,hL0⟩:∃ L0,L0 = brow (lentL bs 0):=⟨_,rfl⟩
 have hnew:(MC.toList.take 0 ++ ((bs.map bv) ++ MC.toList.drop (0 + n))).toArray = L0:=by
  rw [hL0,hMC]
  apply Array.ext'
  simp [brow,lentL,marks,hn]
 have hbs:bs = [] → L0 = MC:=fun e => by
  rw [hL0,hMC,hn,e]; rfl
 have HM:=(hIq hMs (aIq hnew (aIq hL0 hbs)))
 have HAT:=Lib.hid hat
 have HN:=Lib.hid hn
 rw [← hn] at hl ⊢
 have hn4:(n:Int) ≤ 4000:=by omega
 have a0:Adds w (w.alloc (.cells MC 5)):=(Ch.refl _ w).alloc _
 clear hmc hMC hMs hL0 hnew hbs hat hn hcap hcm
 by_cases hz:bs = []
 · have HN0:=Lib.hid (by rw [HN.out,hz]; rfl:n = 0)
   have HZ:=Lib.hid hz
   clear hz
   go_enter Tryz.func60,Tryz.ntmps60
   go_upto_region 3 with (first
    | fail
    | ((with_reducible show zOq (.call _)); refine wpList_copy_nothing rfl _ _ 32 32 rfl 5 Tryz.underlying32 (by kernel_rfl) (some ⟨w.heap.size,0,none⟩) ao (n + 5) (n + 5) n cap rfl rfl (by rw [HN0.out]; exact Nat.zero_min _) ?_))
   refine at_worldF (fun w2 hw2 => ?_)
   have r2:w2.heap[w.heap.size]? = some (.cells L0 5 (0,0)):=by rw [hw2,HM.out.2.2.2 HZ.out]; exact heap_alloc_new _ _
   have a2:Adds w w2:=by rw [hw2]; exact a0
   have W2:=(hIq r2 a2)
   clear hw2 r2 a2
   go_wp2
   go_loopg [4] 5 (fun g s4 wr => ∃ k:Nat,k ≤ 5 ∧ g = 5 - k ∧ s4 = .int .i64 ((n:Int) + k) ∧ wr.heap[w.heap.size]? = some (.cells (brow (lentL bs k)) 5 (0,0)) ∧ Adds w wr)
   case atStart => exact ⟨0,Nat.zero_le _,rfl,by simp,by rw [← HM.out.2.2.1]; exact W2.out.1,W2.out.2⟩
   obtain ⟨k,hk,rfl,rfl,hrow,hA⟩:=hrel
   have HR:=(hIq hrow hA)
   by_cases hlt:k < 5
   · have hk5:(n:Int) + (k:Int) < (n:Int) + 5:=by omega
     have f1:=row_free hrow (n + k)
     have l1:=row_lt hrow
     have hset:=row_set_same hrow (n + k) (bv (mark (n + k)))
     have hbr:(brow (lentL bs k)).setIfInBounds (n + k) (bv (mark (n + k))) = brow (lentL bs (k + 1)):=by
      rw [← lentL_set bs hlt, ← HN.out]
      apply Array.ext'
      simp [brow,List.map_set]
     rw [hbr] at hset
     have HS:=(hIq hset (hA.setCell (p:=⟨w.heap.size,n + k,none⟩) (.inr (Nat.le_refl _)) (bv (mark (n + k)))))
     have hsz:n + k < (brow (lentL bs k)).size:=by rw [brow_size,lentL_length bs (by omega), ← HN.out]; omega
     obtain ⟨y,hy⟩:∃ y,(brow (lentL bs k))[n + k]? = some y:=⟨_,Array.getElem?_eq_getElem hsz⟩
     have c1:=row_cell hrow hy
     have hbm:bv (mark (n + k)) = .int .u8 (200 + ((n + k) % 50:Nat)):=by unfold bv; rw [mark_nat]
     rw [hbm] at HS
     obtain ⟨i,hi⟩:∃ i,i = n + k:=⟨_,rfl⟩
     have hii:(n:Int) + (k:Int) = (i:Int):=by omega
     rw [← hi] at HS f1 hsz c1
     rw [hii] at hk5 ⊢
     obtain ⟨r,hr⟩:∃ r,r = i % 50:=⟨_,rfl⟩
     have hr50:r < 50:=by omega
     have hrem:Int.tmod (i:Int) 50 = (r:Int):=by rw [hr]; rfl
     rw [← hr] at HS
     have HII:=Lib.hid hi
     clear hrow hA hset hbr hk hbm hr hi hii hy
     go_wp2
     go_roundg (5 - (k + 1))
     case measure => omega
     exact ⟨k + 1,by omega,rfl,by have:=HII.out; first | (congr 1; push_cast; omega) | (push_cast; omega),HS.out.1,HS.out.2⟩
   obtain rfl:k = 5:=by omega
   have hk5:¬ ((n:Int) + 5 < (n:Int) + 5):=by omega
   clear hrow hA hk hlt
   go_wp2
   go_ret
   refine ⟨rfl,?_,HR.out.2⟩
   rw [← lent_is]
   exact HR.out.1
 obtain ⟨x,xs,hx⟩:∃ x xs,bs = x :: xs:=by
  cases bs with
  | nil => exact absurd rfl hz
  | cons x xs => exact ⟨x,xs,rfl⟩
 obtain ⟨g0,off,rfl,_⟩:=HAT.out 0 x (by rw [hx]; rfl)
 have hsrc:∀ (w1:World),Adds w w1 → ∀ j u,(bs.map bv)[j]? = some u → w1.cell? ((⟨g0,off,none⟩:Addr).add j) = some u:=fun w1 a j u hu => by
  rw [List.getElem?_map] at hu
  obtain ⟨y,hy,rfl⟩:=Option.map_eq_some_iff.1 hu
  obtain ⟨g',o',he,hc⟩:=HAT.out j y hy
  cases he
  rw [add_plain]
  exact a.cell hc id
 have HSR:=Lib.hid (hsrc _ a0)
 obtain ⟨cs,hcs⟩:∃ cs,cs = bs.map bv:=⟨_,rfl⟩
 have hc1:cs.length = n:=by rw [hcs,List.length_map,HN.out]
 rw [← hcs] at HSR
 have hc2:∀ u ∈ cs,u.oneCell' = true:=by rw [hcs]; exact map_bv_one bs
 have hnw:=HM.out.2.1
 rw [← hcs] at hnw
 have HCS:=(hIq hc1 (aIq hc2 (aIq hnw (by have:=HM.out.1; omega:0 + n ≤ MC.size))))
 clear hsrc hc1 hc2 hnw hcs hx
 go_enter Tryz.func60,Tryz.ntmps60
 go_upto_region 3 with (first
  | fail
  | ((with_reducible show zOq (.call _)); refine wpList_copy_into rfl _ _ 32 32 rfl 5 Tryz.underlying32 (by kernel_rfl) w.heap.size 0 (n + 5) (n + 5) ⟨g0,off,none⟩ n cap rfl rfl MC _ (heap_alloc_new _ _) cs n HCS.out.1 (Nat.min_eq_left (Nat.le_add_right _ _)).symm HSR.out HCS.out.2.2.2 HCS.out.2.1 L0 HCS.out.2.2.1 ?_))
 refine at_worldF (fun w2 hw2 => ?_)
 have r2:w2.heap[w.heap.size]? = some (.cells L0 5 (0,0)):=by rw [hw2]; exact row_setRow_same (heap_alloc_new _ _) _
 have a2:Adds w w2:=by rw [hw2]; exact a0.setRow (.inr (Nat.le_refl _)) _
 have W2:=(hIq r2 a2)
 clear hw2 r2 a2
 go_wp2
 go_loopg [4] 5 (fun g s4 wr => ∃ k:Nat,k ≤ 5 ∧ g = 5 - k ∧ s4 = .int .i64 ((n:Int) + k) ∧ wr.heap[w.heap.size]? = some (.cells (brow (lentL bs k)) 5 (0,0)) ∧ Adds w wr)
 case atStart => exact ⟨0,Nat.zero_le _,rfl,by simp,by rw [← HM.out.2.2.1]; exact W2.out.1,W2.out.2⟩
 obtain ⟨k,hk,rfl,rfl,hrow,hA⟩:=hrel
 have HR:=(hIq hrow hA)
 by_cases hlt:k < 5
 · have hk5:(n:Int) + (k:Int) < (n:Int) + 5:=by omega
   have f1:=row_free hrow (n + k)
   have l1:=row_lt hrow
   have hset:=row_set_same hrow (n + k) (bv (mark (n + k)))
   have hbr:(brow (lentL bs k)).setIfInBounds (n + k) (bv (mark (n + k))) = brow (lentL bs (k + 1)):=by
    rw [← lentL_set bs hlt, ← HN.out]
    apply Array.ext'
    simp [brow,List.map_set]
   rw [hbr] at hset
   have HS:=(hIq hset (hA.setCell (p:=⟨w.heap.size,n + k,none⟩) (.inr (Nat.le_refl _)) (bv (mark (n + k)))))
   have hsz:n + k < (brow (lentL bs k)).size:=by rw [brow_size,lentL_length bs (by omega), ← HN.out]; omega
   obtain ⟨y,hy⟩:∃ y,(brow (lentL bs k))[n + k]? = some y:=⟨_,Array.getElem?_eq_getElem hsz⟩
   have c1:=row_cell hrow hy
   have hbm:bv (mark (n + k)) = .int .u8 (200 + ((n + k) % 50:Nat)):=by unfold bv; rw [mark_nat]
   rw [hbm] at HS
   obtain ⟨i,hi⟩:∃ i,i = n + k:=⟨_,rfl⟩
   have hii:(n:Int) + (k:Int) = (i:Int):=by omega
   rw [← hi] at HS f1 hsz c1
   rw [hii] at hk5 ⊢
   obtain ⟨r,hr⟩:∃ r,r = i % 50:=⟨_,rfl⟩
   have hr50:r < 50:=by omega
   have hrem:Int.tmod (i:Int) 50 = (r:Int):=by rw [hr]; rfl
   rw [← hr] at HS
   have HII:=Lib.hid hi
   clear hrow hA hset hbr hk hbm hr hi hii hy
   go_wp2
   go_roundg (5 - (k + 1))
   case measure => omega
   exact ⟨k + 1,by omega,rfl,by have:=HII.out; first | (congr 1; push_cast; omega) | (push_cast; omega),HS.out.1,HS.out.2⟩
 obtain rfl:k = 5:=by omega
 have hk5:¬ ((n:Int) + 5 < (n:Int) + 5):=by omega
 clear hrow hA hk hlt
 go_wp2
 go_ret
 refine ⟨rfl,?_,HR.out.2⟩
 rw [← lent_is]
 exact HR.out.1
theorem slice_whole (g n c:Nat) (hn:n ≤ c) (hc:(c:Int) ≤ 9223372036854775807) (w0:World):(Instr.sliceAt 32 (.slice (some ⟨g,0,none⟩) n c) none (some (.int .i64 (c:Int))) none).run Tryz.prog w0 = .ok (.slice (some ⟨g,0,none⟩) c c) w0:=by
 have ht:Tryz.prog.underlying 32 = some (.slice (Tryz.prog.elem 32)):=by kernel_rfl
 rw [run_sliceAt_slice w0 _ _ _ _ _ ht,run_slice_h w0 _ (some ⟨g,0,none⟩) n c ht .i64 (c:Int) (by omega) (by omega)]
 obtain ⟨z,hz⟩:∃ z,(sizeOf (Tryz.prog.elem 32)).run Tryz.prog w0 = .ok z w0:=⟨1,by kernel_rfl⟩
 have e:(Value.slice (if c = 0 then some ⟨g,0,none⟩ else (some ⟨g,0,none⟩:Option Addr).map (·.add (0 * z))) (c - 0) (c - 0)) = .slice (some ⟨g,0,none⟩) c c:=by
  rw [Nat.zero_mul,Nat.sub_zero]
  congr 1
  split <;> rfl
 simp only [hz,sliced,Int.toNat_natCast,e,Result.andThen_ok]
theorem KeptBytes_ok {w:World} {v:Value} {bs:List UInt8} {g:Nat} (hg:w.heap[g]? = some (.cells (brow (lent bs)) 5 (0,0))) (hb:Bytes w v bs) (hl:bs.length ≤ 4000) :
 Calls Tryz.prog 63 #[.slice (some ⟨g,0,none⟩) bs.length (bs.length + 5),v] w fun e w' => e = .returned (.bool true) ∧ Adds w w':=by
 have hLB:=fun w1 (a:Adds w w1) => LentBytes_ok (hb.keep a (fun _ _ h => h)) hl
 obtain ⟨ao,cap,rfl,_⟩:=hb.form
 have hcv:∀ (w1:World) (g1:Nat),w1.heap[g1]? = some (.cells (brow (lent bs)) 5 (0,0)) → (convert 32 9 (.slice (some ⟨g1,0,none⟩) (bs.length + 5) (bs.length + 5))).run Tryz.prog w1 = .ok (.string (bstr (lent bs))) w1:=fun w1 g1 h1 => by
  have:=Bytes.row (w:=w1) h1 (lent_length bs) (by unfold maxLen; omega)
  exact conv_bytes this
 have hsl:∀ (g1:Nat) (w1:World),(Instr.sliceAt 32 (.slice (some ⟨g1,0,none⟩) bs.length (bs.length + 5)) none (some (.int .i64 ((bs.length:Int) + 5))) none).run Tryz.prog w1 = .ok (.slice (some ⟨g1,0,none⟩) (bs.length + 5) (bs.length + 5)) w1:=fun g1 w1 => by
  have:=slice_whole g1 bs.length (bs.length + 5) (by omega) (by omega) w1
  push_cast at this
  exact this
 obtain ⟨S,hS⟩:∃ S,S = bstr (lent bs):=⟨_,rfl⟩
 rw [← hS] at hcv
 obtain ⟨L,hL⟩:∃ L,L = brow (lent bs):=⟨_,rfl⟩
 rw [← hL] at hcv hg hLB
 obtain ⟨n,hn⟩:∃ n,n = bs.length:=⟨_,rfl⟩
 rw [← hn] at hcv hsl hLB hl ⊢
 have hw5:IntKind.i64.wrap ((n:Int) + 5) = (n:Int) + 5:=IntWalk.i64_in _ (by omega)
 have HLB:=Lib.hid hLB
 have HCV:=Lib.hid hcv
 have HSL:=Lib.hid hsl
 have HG:=Lib.hid hg
 clear hLB hcv hsl hg hb hS hL hn
 go_enter Tryz.func63,Tryz.ntmps63
 go_wp2
 refine wp_region_plan (fun wz => wz.heap[g]? = some (.cells L 5 (0,0)) ∧ Adds w wz) 20 [(0,false),(1,false),(2,false),(3,false),(4,false),(5,false),(7,false),(8,false),(9,false),(6,true),(10,false),(11,true),(12,false),(13,false),(14,false),(15,false),(16,false),(17,false),(18,false),(19,false)] (by kernel_rfl) (by kernel_rfl) ?_ ?_
 · exact ⟨row_drew HG.out,(Ch.refl _ w).drew⟩
 iterate 2
  refine plan_look rfl rfl (fun w0 hS => (by clear hS; go_simp; try rfl)) ?_
  simp only [Act.put,nAq,nBq,nCq]
 refine plan_look (v:=.int .i64 ((n:Int) + 5)) rfl rfl (fun w0 hS => (by clear hS; go_simp; try rfl)) ?_
 simp only [Act.put,nAq,nBq,nCq]
 refine plan_look (v:=.slice (some ⟨g,0,none⟩) (n + 5) (n + 5)) rfl rfl (fun w0 hS => (by have q:=HSL.out g w0; clear hS; go_simp; try rfl)) ?_
 simp only [Act.put,nAq,nBq,nCq]
 refine plan_convert rfl rfl 32 9 (.tmp 8) (.string S) rfl (.slice (some ⟨g,0,none⟩) (n + 5) (n + 5)) rfl (fun w0 hS => HCV.out w0 g hS.1) ?_
 simp only [Act.put,nAq,nBq,nCq]
 iterate 4
  refine plan_look rfl rfl (fun w0 hS => (by clear hS; go_simp; try rfl)) ?_
  simp only [Act.put,nAq,nBq,nCq]
 refine plan_do rfl ?_
 go_wp2_with fail
 refine (HLB.out _ (Ch.refl _ w).drew).mono ?_; rintro e w2 ⟨rfl,r2,a2⟩
 have H2:=(hIq (a2.row (row_drew HG.out) id) (((Ch.refl (fun _ => False) w).drew).trans a2 (fun _ => fEq)))
 have R2:=Lib.hid r2
 clear a2 r2
 dsimp only
 go_step
 refine wpList_nil ?_
 change _ ∧ _
 refine ⟨H2.out,?_⟩
 refine plan_look (v:=.slice (some ⟨w.drew.heap.size,0,none⟩) (n + 5) (n + 5)) rfl rfl (fun w0 hS => (by have q:=HSL.out w.drew.heap.size w0; clear hS; go_simp; try rfl)) ?_
 simp only [Act.put,nAq,nBq,nCq]
 have hc2:=HCV.out w2 _ R2.out
 have hc3:(convert 32 9 (.slice (some ⟨w.heap.size,0,none⟩) (n + 5) (n + 5))).run Tryz.prog w2 = .ok (.string S) w2:=hc2
 refine plan_do rfl ?_
 go_wp2
 refine ⟨H2.out,?_⟩
 iterate 8
  refine plan_look rfl rfl (fun w0 hS => (by clear hS; go_simp; try rfl)) ?_
  simp only [Act.put,nAq,nBq,nCq]
 refine plan_end ?_; simp only [List.drop_succ_cons,List.drop_zero]
 go_wp2
 refine NoPanic.normal ?_
 go_wp2
 go_ret
 exact ⟨rfl,H2.out.2⟩
section
variable {w w' : World} {b : Nat} {F : Nat → Prop} {ρ : Rs} {σ : SlabSt Nd}
theorem RKey_none (h:RAt w b F ρ) {n:Int} (hz0:ρ.sp n = Sp.zero) :
 Calls Tryz.prog 153 #[.pointer (some ⟨b,0,none⟩),.int .i64 n] w fun e w' => e = .returned (.agg (brow Nd.z32)) ∧ Adds w w':=by
 obtain ⟨Z,hZ⟩:∃ Z,Z = brow Nd.z32:=⟨_,rfl⟩
 have hzp:(Tryz.prog.info? 31).bind (·.zero) = some (.agg (brow Nd.z32)):=zeroP
 have hzb:Tryz.prog.built 31 [] = some (brow Nd.z32):=by kernel_rfl
 rw [← hZ] at hzp hzb ⊢
 have hZs:Z.size = 32 ∧ ∀ v ∈ Z.toList,v.oneCell' = true:=by rw [hZ]; exact ⟨rfl,brow_ones _⟩
 have a0:Adds w (w.alloc (.cells Z 31)):=(Ch.refl _ w).alloc _
 have HE:=Lib.hid (REntries_none (h.adds a0) hz0)
 have HZ:=(hIq hzp (aIq hZs (aIq hzb a0)))
 clear hzp hzb hZs a0 h hz0 hZ
 go_enter Tryz.func153,Tryz.ntmps153
 go_wp2_with (first
  | fail
  | ((with_reducible show zOq (.alloc 31)); refine wpList_alloc_is rfl 31 rfl (.agg Z) HZ.out.1 ?_; dsimp only [Value.cells]; try simp only [World.size_alloc]))
 refine HE.out.mono ?_; rintro e w1 ⟨rfl,a1⟩
 have hk1:=a1.row (heap_alloc_new w (.cells Z 31)) id
 have H1:=(hIq hk1 (HZ.out.2.2.2.trans a1 (fun _ => fEq)))
 have hlt:=row_lt hk1
 clear a1 hk1
 go_wp2_with (first
  | fail
  | ((with_reducible show zOq (.build 31 #[])); refine wpList_build_none rfl 31 rfl Z HZ.out.2.2.1 ?_)
  | ((with_reducible show zOq (.store 31 _ _)); refine wpList_store_part rfl 31 _ _ rfl w.heap.size 0 Z rfl rfl H1.out.1 (by rw [sizeP,HZ.out.2.1.1]) (by omega) HZ.out.2.1.2 Z (by rw [splice_all _ _ rfl]) ?_))
 exact bodyPost_ret_cell1 (p:=4) rfl rfl (row_setRow_same H1.out.1 _) Tryz.underlying31 rfl (by rw [sizeP,HZ.out.2.1.1]) rfl ⟨rfl,H1.out.2.setRow (.inr (Nat.le_refl _)) _⟩
theorem RKey_ok (h:RAt w b F ρ) (L:Lk σ ρ) (G:Good σ) (n:Int) :
 Calls Tryz.prog 153 #[.pointer (some ⟨b,0,none⟩),.int .i64 n] w fun e w' => e = .returned (.agg (brow (nd σ n).key)) ∧ Adds w w':=by
 cases hs:σ.get? n with
 | none =>
  rw [nd_none hs]
  exact RKey_none h (L.none hs)
 | some s =>
  rcases kind_ne G hs with h1 | h2
  · exact RKey_leaf h L G (by rw [nd_some hs]; exact h1)
  rw [nd_some hs]
  exact RKey_inner h L G hs h2
end
section
variable {P : Program}
theorem wpList_append_row {w:World} {ops:Array Oper} {rest:List Oper} {o:Oper} {a:Act} {Q:Exit → Act → World → Prop} (hgd:o.guard = none) (s x:Operand) (t:TypeId)
 (ho:o.op = .call { callee:=.builtin .append,args := #[s,x],argTypes := #[t,t] }) (e:TypeId) (he:e = 5) (i:TypeInfo) (ht:P.underlying t = some (.slice e)) (hi:P.info? e = some i) (hz:i.zero = some (.int .u8 0)) (hsize:i.size = 1) (hby:i.bytes = 1)
 (hs:a.eval s = .slice none 0 0) (xv:Value) (hx:a.eval x = xv) (bs:List UInt8) (hb:Bytes w xv bs) (hlen:bs.length ≤ 140737488355328)
 (h:∀ v' w',BytesRow w' w.heap.size v' bs → Adds w w' → wpList P ops Q rest (a.put o.dst v') w'):wpList P ops Q (o :: rest) a w :=
 wpList_plain hgd fun _ hK => by
  obtain ⟨v',w',hrun,r1,r2⟩:=run_append_copy' w t o.type e he i ht hi hz hsize hby xv bs hb hlen
  unfold Oper.wp
  simp [execOp,ho,resolve,invoke,builtin,hs,hx,hrun,Result.andThen]
  exact hK _ _ (h v' w' r1 r2)
end
theorem Value_row {w:World} {s:Nat} {F:Nat → Prop} {σ:SlabSt Nd} (h:At w s F σ) (n:Int) :
 Calls Tryz.prog 155 #[.pointer (some ⟨s,0,none⟩),.int .i64 n] w fun e w' => ∃ v,e = .returned v ∧ BytesRow w' w.heap.size v (nd σ n).value ∧ Adds w w':=by
 have hok:=h.ok n
 have hg:=get_ok h n
 have hbb:=h.bytes n
 obtain ⟨N,Z,hN,hn,hz⟩:=told h n
 rw [← hN] at hg
 have k0:N[66]? = some (nd σ n).addr:=by rw [hN]; exact Nd.at_addr hok
 have hvl:=hok.val
 obtain ⟨i0,hi,hz0,hz1,hz2⟩:=info8
 obtain ⟨ao,len,cap,hA⟩:=hok.addr
 rw [hA] at k0 hbb
 generalize (nd σ n).value = bs at hbb hvl
 have HG:=Lib.hid hg
 have HN:=Lib.hid hn
 have HZ:=Lib.hid hz
 have HB:=Lib.hid hbb
 have HI:=(hIq hi (aIq hz0 (aIq hz1 hz2)))
 have HV:=Lib.hid hvl
 clear hok hg hN hn hz h hbb hi hz0 hz1 hz2 hA hvl
 go_enter Tryz.func155,Tryz.ntmps155
 go_wp2_with fail
 refine HG.out.mono ?_; rintro e w1 ⟨rfl,hc1⟩
 have c0:=row_cell (row_setRow_same (heap_alloc_new w1 (.cells Z 123)) N) k0
 have C1:=Lib.hid hc1
 clear hc1 k0
 go_wp2_with (first
  | ((with_reducible show zOq (.alloc 123)); refine wpList_alloc_is rfl 123 rfl (.agg Z) HZ.out.1 ?_; dsimp only [Value.cells]; try simp only [World.size_alloc])
  | ((with_reducible show zOq (.store 123 (.tmp 5) _)); go_must (refine wpList_store_part rfl 123 _ _ rfl w1.heap.size 0 N rfl rfl (heap_alloc_new _ _) (by rw [sizeN,HN.out.1]) (by rw [HN.out.1,HZ.out.2]; omega) HN.out.2 N (by rw [splice_all _ _ (by rw [Array.length_toList,Array.length_toList,HN.out.1,HZ.out.2])]) ?_))
  | (at_builtin; refine wpList_append_row rfl _ _ 32 rfl 5 rfl i0 Tryz.underlying32 HI.out.1 HI.out.2.1 HI.out.2.2.1 HI.out.2.2.2 rfl _ rfl bs (HB.out.keep ((C1.out.alloc _).setRow (.inr C1.out.size) _) (fun _ _ h => h)) (by have:=HV.out; omega) ?_; intro v' w2 hb2 hc2; have HB2:=(hIq hb2 hc2); clear hb2 hc2))
 go_ret
 refine ⟨_,rfl,HB2.out.1.base (fun k hk => ?_),((C1.out.alloc _).setRow (.inr C1.out.size) _).trans HB2.out.2 (fun _ => fEq)⟩
 have:=(HB2.out.1.lt k hk).1
 have:=C1.out.size
 simp at *
 omega
end Go.Proofs.YtmeglndnkdgkoaaGreat.Store

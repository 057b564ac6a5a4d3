/- Proved contracts and plain laws of the layers below, in one text. -/
import Derived.Test.YtmeglndnkdgkoaaGreatQd34
import Derived.Deep.OwnRows
set_option maxHeartbeats 3200000
set_option maxRecDepth 100000
set_option linter.unusedVariables false
namespace Go.Proofs.YtmeglndnkdgkoaaGreat.Store
open Go Go.RowKit Go.Proofs.YtmeglndnkdgkoaaGreat Go.Proofs.YtmeglndnkdgkoaaGreat.ShaW Go.Proofs.YtmeglndnkdgkoaaGreat.Path Go.Proofs.YtmeglndnkdgkoaaGreat.Law9
def mark (i:Nat):UInt8:=UInt8.ofNat (200 + i % 50)
def marks (n k:Nat):List UInt8:=(List.range k).map fun i => mark (n + i)
theorem marks_length (n k:Nat):(marks n k).length = k:=by simp [marks]
def lentL (bs:List UInt8) (k:Nat):List UInt8:=bs ++ (marks bs.length k ++ List.replicate (5 - k) 0)
theorem lentL_length (bs:List UInt8) {k:Nat} (hk:k ≤ 5):(lentL bs k).length = bs.length + 5:=by simp [lentL,marks_length]; omega
theorem lentL_set (bs:List UInt8) {k:Nat} (hk:k < 5):(lentL bs k).set (bs.length + k) (mark (bs.length + k)) = lentL bs (k + 1):=by
 unfold lentL
 rw [List.set_append_right _ _ (by omega),show bs.length + k - bs.length = k by omega]
 rw [List.set_append_right _ _ (by rw [marks_length]; omega),marks_length,Nat.sub_self]
 rw [show 5 - k = (5 - (k + 1)) + 1 by omega,List.replicate_succ,List.set_cons_zero]
 rw [show marks bs.length (k + 1) = marks bs.length k ++ [mark (bs.length + k)] by simp [marks,List.range_succ]]
 rw [List.append_assoc]
 rfl
def lent (bs:List UInt8):List UInt8:=bs ++ marks bs.length 5
theorem lent_is (bs:List UInt8):lentL bs 5 = lent bs:=by simp [lentL,lent]
theorem lent_length (bs:List UInt8):(lent bs).length = bs.length + 5:=by simp [lent,marks_length]
theorem mark_nat (i:Nat):((mark i).toNat:Int) = 200 + (i % 50:Nat):=by
 unfold mark
 have:i % 50 < 50:=Nat.mod_lt _ (by omega)
 rw [UInt8.toNat_ofNat']
 rw [Nat.mod_eq_of_lt (by omega)]
 omega
theorem madeCells_bytes (k:Nat):madeCells #[Value.int .u8 0] k = brow (List.replicate k 0):=by
 rw [← zero_bytes k]
 have e:k * (#[Value.int .u8 0]:Array Value).size = k:=Nat.mul_one k
 delta madeCells Builtin.zeroCells
 rw [e]
theorem LentBytes_ok {w:World} {v:Value} {bs:List UInt8} (hb:Bytes w v bs) (hl:bs.length ≤ 4000) :
 Calls Tryz.prog 60 #[v] w fun e w' => e = .returned (.slice (some ⟨w.heap.size,0,none⟩) bs.length (bs.length + 5)) ∧ w'.heap[w.heap.size]? = some (.cells (brow (lent bs)) 5 (0,0)) ∧ Adds w w':=by
 obtain ⟨ao,cap,rfl,hcap,hcm,hat⟩:=hb
 obtain ⟨n,hn⟩:∃ n,n = bs.length:=⟨_,rfl⟩
 have hmk:∀ w:World,(Instr.makeSlice 32 (.int .i64 ((n:Int) + 5)) (.int .i64 ((n:Int) + 5))).run Tryz.prog w = .ok (.slice (some ⟨w.heap.size,0,none⟩) (n + 5) (n + 5)) (w.alloc (.cells (madeCells #[.int .u8 0] (n + 5)) 5)):=fun w => by
  have:=run_make_row' (P:=Tryz.prog) 32 5 (.int .u8 0) 1 Tryz.underlying32 (by kernel_rfl) rfl .i64 .i64 (n + 5) (by omega) (by omega) w
  push_cast at this
  exact this
 have hw5:IntKind.i64.wrap ((n:Int) + 5) = (n:Int) + 5:=IntWalk.i64_in _ (by omega)
 have hmc:madeCells #[Value.int .u8 0] (n + 5) = brow (List.replicate (n + 5) 0):=madeCells_bytes _
 rw [hmc] at hmk
 obtain ⟨MC,hMC⟩:∃ MC,MC = brow (List.replicate (n + 5) 0):=⟨_,rfl⟩
 rw [← hMC] at hmk
 have hMs:MC.size = n + 5:=by rw [hMC,brow_size,List.length_replicate]
 obtain ⟨L0,hL0⟩:∃ L0,L0 = brow (lentL bs 0):=⟨_,rfl⟩
 have hnew:(MC.toList.take 0 ++ ((bs.map bv) ++ MC.toList.drop (0 + n))).toArray = L0:=by
  rw [hL0,hMC]
  apply Array.ext'
  simp [brow,lentL,marks,hn]
 have hbs:bs = [] → L0 = MC:=fun e => by
  rw [hL0,hMC,hn,e]; rfl
 have HM:=(hIq hMs (aIq hnew (aIq hL0 hbs)))
 have HAT:=Lib.hid hat
 have HN:=Lib.hid hn
 rw [← hn] at hl ⊢
 have hn4:(n:Int) ≤ 4000:=by omega
 have a0:Adds w (w.alloc (.cells MC 5)):=(Ch.refl _ w).alloc _
 clear hmc hMC hMs hL0 hnew hbs hat hn hcap hcm
 by_cases hz:bs = []
 · have HN0:=Lib.hid (by rw [HN.out,hz]; rfl:n = 0)
   have HZ:=Lib.hid hz
   clear hz
   go_enter Tryz.func60,Tryz.ntmps60
   go_upto_region 3 with (first
    | fail
    | ((with_reducible show zOq (.call _)); refine wpList_copy_nothing rfl _ _ 32 32 rfl 5 Tryz.underlying32 (by kernel_rfl) (some ⟨w.heap.size,0,none⟩) ao (n + 5) (n + 5) n cap rfl rfl (by rw [HN0.out]; exact Nat.zero_min _) ?_))
   refine at_worldF (fun w2 hw2 => ?_)
   have r2:w2.heap[w.heap.size]? = some (.cells L0 5 (0,0)):=by rw [hw2,HM.out.2.2.2 HZ.out]; exact heap_alloc_new _ _
   have a2:Adds w w2:=by rw [hw2]; exact a0
   have W2:=(hIq r2 a2)
   clear hw2 r2 a2
   go_wp2
   go_loopg [4] 5 (fun g s4 wr => ∃ k:Nat,k ≤ 5 ∧ g = 5 - k ∧ s4 = .int .i64 ((n:Int) + k) ∧ wr.heap[w.heap.size]? = some (.cells (brow (lentL bs k)) 5 (0,0)) ∧ Adds w wr)
   case atStart => exact ⟨0,Nat.zero_le _,rfl,by simp,by rw [← HM.out.2.2.1]; exact W2.out.1,W2.out.2⟩
   obtain ⟨k,hk,rfl,rfl,hrow,hA⟩:=hrel
   have HR:=(hIq hrow hA)
   by_cases hlt:k < 5
   · have hk5:(n:Int) + (k:Int) < (n:Int) + 5:=by omega
     have f1:=row_free hrow (n + k)
     have l1:=row_lt hrow
     have hset:=row_set_same hrow (n + k) (bv (mark (n + k)))
     have hbr:(brow (lentL bs k)).setIfInBounds (n + k) (bv (mark (n + k))) = brow (lentL bs (k + 1)):=by
      rw [← lentL_set bs hlt, ← HN.out]
      apply Array.ext'
      simp [brow,List.map_set]
     rw [hbr] at hset
     have HS:=(hIq hset (hA.setCell (p:=⟨w.heap.size,n + k,none⟩) (.inr (Nat.le_refl _)) (bv (mark (n + k)))))
     have hsz:n + k < (brow (lentL bs k)).size:=by rw [brow_size,lentL_length bs (by omega), ← HN.out]; omega
     obtain ⟨y,hy⟩:∃ y,(brow (lentL bs k))[n + k]? = some y:=⟨_,Array.getElem?_eq_getElem hsz⟩
     have c1:=row_cell hrow hy
     have hbm:bv (mark (n + k)) = .int .u8 (200 + ((n + k) % 50:Nat)):=by unfold bv; rw [mark_nat]
     rw [hbm] at HS
     obtain ⟨i,hi⟩:∃ i,i = n + k:=⟨_,rfl⟩
     have hii:(n:Int) + (k:Int) = (i:Int):=by omega
     rw [← hi] at HS f1 hsz c1
     rw [hii] at hk5 ⊢
     obtain ⟨r,hr⟩:∃ r,r = i % 50:=⟨_,rfl⟩
     have hr50:r < 50:=by omega
     have hrem:Int.tmod (i:Int) 50 = (r:Int):=by rw [hr]; rfl
     rw [← hr] at HS
     have HII:=Lib.hid hi
     clear hrow hA hset hbr hk hbm hr hi hii hy
     go_wp2
     go_roundg (5 - (k + 1))
     case measure => omega
     exact ⟨k + 1,by omega,rfl,by have:=HII.out; first | (congr 1; push_cast; omega) | (push_cast; omega),HS.out.1,HS.out.2⟩
   obtain rfl:k = 5:=by omega
   have hk5:¬ ((n:Int) + 5 < (n:Int) + 5):=by omega
   clear hrow hA hk hlt
   go_wp2
   go_ret
   refine ⟨rfl,?_,HR.out.2⟩
   rw [← lent_is]
   exact HR.out.1
 obtain ⟨x,xs,hx⟩:∃ x xs,bs = x :: xs:=by
  cases bs with
  | nil => exact absurd rfl hz
  | cons x xs => exact ⟨x,xs,rfl⟩
 obtain ⟨g0,off,rfl,_⟩:=HAT.out 0 x (by rw [hx]; rfl)
 have hsrc:∀ (w1:World),Adds w w1 → ∀ j u,(bs.map bv)[j]? = some u → w1.cell? ((⟨g0,off,none⟩:Addr).add j) = some u:=fun w1 a j u hu => by
  rw [List.getElem?_map] at hu
  obtain ⟨y,hy,rfl⟩:=Option.map_eq_some_iff.1 hu
  obtain ⟨g',o',he,hc⟩:=HAT.out j y hy
  cases he
  rw [add_plain]
  exact a.cell hc id
 have HSR:=Lib.hid (hsrc _ a0)
 obtain ⟨cs,hcs⟩:∃ cs,cs = bs.map bv:=⟨_,rfl⟩
 have hc1:cs.length = n:=by rw [hcs,List.length_map,HN.out]
 rw [← hcs] at HSR
 have hc2:∀ u ∈ cs,u.oneCell' = true:=by rw [hcs]; exact map_bv_one bs
 have hnw:=HM.out.2.1
 rw [← hcs] at hnw
 have HCS:=(hIq hc1 (aIq hc2 (aIq hnw (by have:=HM.out.1; omega:0 + n ≤ MC.size))))
 clear hsrc hc1 hc2 hnw hcs hx
 go_enter Tryz.func60,Tryz.ntmps60
 go_upto_region 3 with (first
  | fail
  | ((with_reducible show zOq (.call _)); refine wpList_copy_into rfl _ _ 32 32 rfl 5 Tryz.underlying32 (by kernel_rfl) w.heap.size 0 (n + 5) (n + 5) ⟨g0,off,none⟩ n cap rfl rfl MC _ (heap_alloc_new _ _) cs n HCS.out.1 (Nat.min_eq_left (Nat.le_add_right _ _)).symm HSR.out HCS.out.2.2.2 HCS.out.2.1 L0 HCS.out.2.2.1 ?_))
 refine at_worldF (fun w2 hw2 => ?_)
 have r2:w2.heap[w.heap.size]? = some (.cells L0 5 (0,0)):=by rw [hw2]; exact row_setRow_same (heap_alloc_new _ _) _
 have a2:Adds w w2:=by rw [hw2]; exact a0.setRow (.inr (Nat.le_refl _)) _
 have W2:=(hIq r2 a2)
 clear hw2 r2 a2
 go_wp2
 go_loopg [4] 5 (fun g s4 wr => ∃ k:Nat,k ≤ 5 ∧ g = 5 - k ∧ s4 = .int .i64 ((n:Int) + k) ∧ wr.heap[w.heap.size]? = some (.cells (brow (lentL bs k)) 5 (0,0)) ∧ Adds w wr)
 case atStart => exact ⟨0,Nat.zero_le _,rfl,by simp,by rw [← HM.out.2.2.1]; exact W2.out.1,W2.out.2⟩
 obtain ⟨k,hk,rfl,rfl,hrow,hA⟩:=hrel
 have HR:=(hIq hrow hA)
 by_cases hlt:k < 5
 · have hk5:(n:Int) + (k:Int) < (n:Int) + 5:=by omega
   have f1:=row_free hrow (n + k)
   have l1:=row_lt hrow
   have hset:=row_set_same hrow (n + k) (bv (mark (n + k)))
   have hbr:(brow (lentL bs k)).setIfInBounds (n + k) (bv (mark (n + k))) = brow (lentL bs (k + 1)):=by
    rw [← lentL_set bs hlt, ← HN.out]
    apply Array.ext'
    simp [brow,List.map_set]
   rw [hbr] at hset
   have HS:=(hIq hset (hA.setCell (p:=⟨w.heap.size,n + k,none⟩) (.inr (Nat.le_refl _)) (bv (mark (n + k)))))
   have hsz:n + k < (brow (lentL bs k)).size:=by rw [brow_size,lentL_length bs (by omega), ← HN.out]; omega
   obtain ⟨y,hy⟩:∃ y,(brow (lentL bs k))[n + k]? = some y:=⟨_,Array.getElem?_eq_getElem hsz⟩
   have c1:=row_cell hrow hy
   have hbm:bv (mark (n + k)) = .int .u8 (200 + ((n + k) % 50:Nat)):=by unfold bv; rw [mark_nat]
   rw [hbm] at HS
   obtain ⟨i,hi⟩:∃ i,i = n + k:=⟨_,rfl⟩
   have hii:(n:Int) + (k:Int) = (i:Int):=by omega
   rw [← hi] at HS f1 hsz c1
   rw [hii] at hk5 ⊢
   obtain ⟨r,hr⟩:∃ r,r = i % 50:=⟨_,rfl⟩
   have hr50:r < 50:=by omega
   have hrem:Int.tmod (i:Int) 50 = (r:Int):=by rw [hr]; rfl
   rw [← hr] at HS
   have HII:=Lib.hid hi
   clear hrow hA hset hbr hk hbm hr hi hii hy
   go_wp2
   go_roundg (5 - (k + 1))
   case measure => omega
   exact ⟨k + 1,by omega,rfl,by have:=HII.out; first | (congr 1; push_cast; omega) | (push_cast; omega),HS.out.1,HS.out.2⟩
 obtain rfl:k = 5:=by omega
 have hk5:¬ ((n:Int) + 5 < (n:Int) + 5):=by omega
 clear hrow hA hk hlt
 go_wp2
 go_ret
 refine ⟨rfl,?_,HR.out.2⟩
 rw [← lent_is]
 exact HR.out.1
theorem slice_whole (g n c:Nat) (hn:n ≤ c) (hc:(c:Int) ≤ 9223372036854775807) (w0:World):(Instr.sliceAt 32 (.slice (some ⟨g,0,none⟩) n c) none (some (.int .i64 (c:Int))) none).run Tryz.prog w0 = .ok (.slice (some ⟨g,0,none⟩) c c) w0:=by
 have ht:Tryz.prog.underlying 32 = some (.slice (Tryz.prog.elem 32)):=by kernel_rfl
 rw [run_sliceAt_slice w0 _ _ _ _ _ ht,run_slice_h w0 _ (some ⟨g,0,none⟩) n c ht .i64 (c:Int) (by omega) (by omega)]
 obtain ⟨z,hz⟩:∃ z,(sizeOf (Tryz.prog.elem 32)).run Tryz.prog w0 = .ok z w0:=⟨1,by kernel_rfl⟩
 have e:(Value.slice (if c = 0 then some ⟨g,0,none⟩ else (some ⟨g,0,none⟩:Option Addr).map (·.add (0 * z))) (c - 0) (c - 0)) = .slice (some ⟨g,0,none⟩) c c:=by
  rw [Nat.zero_mul,Nat.sub_zero]
  congr 1
  split <;> rfl
 simp only [hz,sliced,Int.toNat_natCast,e,Result.andThen_ok]
theorem KeptBytes_ok {w:World} {v:Value} {bs:List UInt8} {g:Nat} (hg:w.heap[g]? = some (.cells (brow (lent bs)) 5 (0,0))) (hb:Bytes w v bs) (hl:bs.length ≤ 4000) :
 Calls Tryz.prog 63 #[.slice (some ⟨g,0,none⟩) bs.length (bs.length + 5),v] w fun e w' => e = .returned (.bool true) ∧ Adds w w':=by
 have hLB:=fun w1 (a:Adds w w1) => LentBytes_ok (hb.keep a (fun _ _ h => h)) hl
 obtain ⟨ao,cap,rfl,_⟩:=hb.form
 have hcv:∀ (w1:World) (g1:Nat),w1.heap[g1]? = some (.cells (brow (lent bs)) 5 (0,0)) → (convert 32 9 (.slice (some ⟨g1,0,none⟩) (bs.length + 5) (bs.length + 5))).run Tryz.prog w1 = .ok (.string (bstr (lent bs))) w1:=fun w1 g1 h1 => by
  have:=Bytes.row (w:=w1) h1 (lent_length bs) (by unfold maxLen; omega)
  exact conv_bytes this
 have hsl:∀ (g1:Nat) (w1:World),(Instr.sliceAt 32 (.slice (some ⟨g1,0,none⟩) bs.length (bs.length + 5)) none (some (.int .i64 ((bs.length:Int) + 5))) none).run Tryz.prog w1 = .ok (.slice (some ⟨g1,0,none⟩) (bs.length + 5) (bs.length + 5)) w1:=fun g1 w1 => by
  have:=slice_whole g1 bs.length (bs.length + 5) (by omega) (by omega) w1
  push_cast at this
  exact this
 obtain ⟨S,hS⟩:∃ S,S = bstr (lent bs):=⟨_,rfl⟩
 rw [← hS] at hcv
 obtain ⟨L,hL⟩:∃ L,L = brow (lent bs):=⟨_,rfl⟩
 rw [← hL] at hcv hg hLB
 obtain ⟨n,hn⟩:∃ n,n = bs.length:=⟨_,rfl⟩
 rw [← hn] at hcv hsl hLB hl ⊢
 have hw5:IntKind.i64.wrap ((n:Int) + 5) = (n:Int) + 5:=IntWalk.i64_in _ (by omega)
 have HLB:=Lib.hid hLB
 have HCV:=Lib.hid hcv
 have HSL:=Lib.hid hsl
 have HG:=Lib.hid hg
 clear hLB hcv hsl hg hb hS hL hn
 go_enter Tryz.func63,Tryz.ntmps63
 go_wp2
 refine wp_region_plan (fun wz => wz.heap[g]? = some (.cells L 5 (0,0)) ∧ Adds w wz) 20 [(0,false),(1,false),(2,false),(3,false),(4,false),(5,false),(7,false),(8,false),(9,false),(6,true),(10,false),(11,true),(12,false),(13,false),(14,false),(15,false),(16,false),(17,false),(18,false),(19,false)] (by kernel_rfl) (by kernel_rfl) ?_ ?_
 · exact ⟨row_drew HG.out,(Ch.refl _ w).drew⟩
 iterate 2
  refine plan_look rfl rfl (fun w0 hS => (by clear hS; go_simp; try rfl)) ?_
  simp only [Act.put,nAq,nBq,nCq]
 refine plan_look (v:=.int .i64 ((n:Int) + 5)) rfl rfl (fun w0 hS => (by clear hS; go_simp; try rfl)) ?_
 simp only [Act.put,nAq,nBq,nCq]
 refine plan_look (v:=.slice (some ⟨g,0,none⟩) (n + 5) (n + 5)) rfl rfl (fun w0 hS => (by have q:=HSL.out g w0; clear hS; go_simp; try rfl)) ?_
 simp only [Act.put,nAq,nBq,nCq]
 refine plan_convert rfl rfl 32 9 (.tmp 8) (.string S) rfl (.slice (some ⟨g,0,none⟩) (n + 5) (n + 5)) rfl (fun w0 hS => HCV.out w0 g hS.1) ?_
 simp only [Act.put,nAq,nBq,nCq]
 iterate 4
  refine plan_look rfl rfl (fun w0 hS => (by clear hS; go_simp; try rfl)) ?_
  simp only [Act.put,nAq,nBq,nCq]
 refine plan_do rfl ?_
 go_wp2_with fail
 refine (HLB.out _ (Ch.refl _ w).drew).mono ?_; rintro e w2 ⟨rfl,r2,a2⟩
 have H2:=(hIq (a2.row (row_drew HG.out) id) (((Ch.refl (fun _ => False) w).drew).trans a2 (fun _ => fEq)))
 have R2:=Lib.hid r2
 clear a2 r2
 dsimp only
 go_step
 refine wpList_nil ?_
 change _ ∧ _
 refine ⟨H2.out,?_⟩
 refine plan_look (v:=.slice (some ⟨w.drew.heap.size,0,none⟩) (n + 5) (n + 5)) rfl rfl (fun w0 hS => (by have q:=HSL.out w.drew.heap.size w0; clear hS; go_simp; try rfl)) ?_
 simp only [Act.put,nAq,nBq,nCq]
 have hc2:=HCV.out w2 _ R2.out
 have hc3:(convert 32 9 (.slice (some ⟨w.heap.size,0,none⟩) (n + 5) (n + 5))).run Tryz.prog w2 = .ok (.string S) w2:=hc2
 refine plan_do rfl ?_
 go_wp2
 refine ⟨H2.out,?_⟩
 iterate 8
  refine plan_look rfl rfl (fun w0 hS => (by clear hS; go_simp; try rfl)) ?_
  simp only [Act.put,nAq,nBq,nCq]
 refine plan_end ?_; simp only [List.drop_succ_cons,List.drop_zero]
 go_wp2
 refine NoPanic.normal ?_
 go_wp2
 go_ret
 exact ⟨rfl,H2.out.2⟩
section
variable {w0 w w' : World} {c s b : Nat} {σ σ' τ τ' : SlabSt Nd} {root : Int} {aside : List Int} {G : Nat → Prop}
theorem ScAt.keepG (h:ScAt w0 w c s b σ τ root aside G) {C:Nat → Prop} (hc:Ch C w w') (hC:∀ k,C k → G k ∧ w0.heap.size ≤ k):ScAt w0 w' c s b σ τ root aside G:=by
 obtain ⟨ρ,F1,F2,vA,h1,h2,h3,h4,h5,h6,h7,h8,h9,h10,h11⟩:=h
 have hd:∀ k,C k → ¬ F1 k ∧ ¬ F2 k ∧ k ≠ c ∧ vA.ownBlock ≠ some k:=fun k hk => by
  obtain ⟨q1,q2,q3,q4,_⟩:=h11 k (hC k hk).1
  exact ⟨q1,q2,q3,q4⟩
 refine ⟨ρ,F1,F2,vA,h1.keep hc (fun k hk e => (hd k e).1 hk),h2.keep hc (fun k hk e => (hd k e).2.1 hk),h3,hc.row h4 (fun e => (hd c e).2.2.1 rfl),hc.owns h5 (fun k hk e => (hd k e).2.2.2 hk),h6,h7,h8,h9,h10.trans hc (fun k hk => .inr (hC k hk).2),fun k hk => ?_⟩
 obtain ⟨q1,q2,q3,q4,q5⟩:=h11 k hk
 exact ⟨q1,q2,q3,q4,Nat.lt_of_lt_of_le q5 hc.size⟩
theorem sizeAct9:(Tryz.prog.info? 47).map (·.size) = some 35:=by kernel_rfl
theorem cost_scene (h:ScAt w0 w c s b σ σ root aside G) (GG:Good σ) (r:Int) (x:Act9) (hx:x.Good w) :
 Calls Tryz.prog 21 #[.pointer (some ⟨c,0,none⟩),.int .i64 r,.agg x.cells] w fun e w' => e = .returned (.bool true) ∧ Adds w w':=by
 obtain ⟨kind,key,vv,val,hh⟩:=x
 obtain ⟨hk,hb,_⟩:=hx
 simp only at hk hb
 have q1:=Act9.at_key (x:=⟨kind,key,vv,val,hh⟩) hk
 have q2:=Act9.at_val (x:=⟨kind,key,vv,val,hh⟩) hk
 have qs:=Act9.size (x:=⟨kind,key,vv,val,hh⟩) hk
 obtain ⟨X,hX⟩:∃ X,X = Act9.cells ⟨kind,key,vv,val,hh⟩:=⟨_,rfl⟩
 rw [← hX] at q1 q2 qs
 rw [← hX]
 simp only at q1 q2
 obtain ⟨ao,cap,hvv,_⟩:=hb.form
 obtain ⟨K,hK⟩:∃ K,K = brow key:=⟨_,rfl⟩
 rw [← hK] at q1
 obtain ⟨er,her⟩:∃ er,er = costErr σ r val:=⟨_,rfl⟩
 have hc1:=fun w1 (a:Adds w w1) => Cost_any (h.adds a).ow GG r hk (hb.keep a (fun _ _ h => h))
 have hc2:=fun w1 (a:Adds w w1) (y:Int) (hy:CostTo σ r key val y) => Cost9_any (h.adds a).row9 GG r hk (hb.keep a (fun _ _ h => h)) hy
 rw [← hK, ← her] at hc1 hc2
 obtain ⟨aa,ac,hr,_⟩:=h.row
 have HC1:=Lib.hid hc1
 have HC2:=Lib.hid hc2
 have HX:=(hIq qs (aIq q1 q2))
 have hr0:=row_alloc hr (.cells X 47)
 have hx0:=heap_alloc_new w (.cells X 47)
 have H0:=(hIq hr0 (aIq hx0 ((Ch.refl (fun _ => False) w).alloc (.cells X 47))))
 clear hc1 hc2 q1 q2 qs hX hK her hr hr0 hx0 hb hk h GG
 subst hvv
 obtain ⟨R,hR⟩:∃ R,R = #[Value.pointer (some ⟨s,0,none⟩),.pointer (some ⟨b,0,none⟩),.int .i64 root,.slice aa aside.length ac]:=⟨_,rfl⟩
 have r0:R[0]? = some (.pointer (some ⟨s,0,none⟩)):=by rw [hR]; rfl
 have r1:R[1]? = some (.pointer (some ⟨b,0,none⟩)):=by rw [hR]; rfl
 rw [← hR] at H0
 have HRR:=(hIq r0 r1)
 clear hR r0 r1
 go_enter Tryz.func21,Tryz.ntmps21
 go_wp2
 refine wp_region_plan (fun wz => wz.heap[c]? = some (.cells R 45 (0,0)) ∧ wz.heap[w.heap.size]? = some (.cells X 47 (0,0))) 14 [(0,false),(1,false),(2,false),(3,false),(4,false),(5,false),(6,false),(7,false),(8,false),(9,true),(10,false),(11,false),(12,false),(13,false)] (by kernel_rfl) (by kernel_rfl) ?_ ?_
 · exact ⟨row_drew H0.out.1,row_drew H0.out.2.1⟩
 iterate 3
  refine plan_look rfl rfl (fun w0 hS => (by clear hS; go_simp; try rfl)) ?_
  simp only [Act.put,nAq,nBq,nCq]
 refine plan_look (v:=.pointer (some ⟨s,0,none⟩)) rfl rfl (fun w0 hS => (by have c1:=row_cell hS.1 HRR.out.1; clear hS; go_simp; try rfl)) ?_
 simp only [Act.put,nAq,nBq,nCq]
 iterate 2
  refine plan_look rfl rfl (fun w0 hS => (by clear hS; go_simp; try rfl)) ?_
  simp only [Act.put,nAq,nBq,nCq]
 refine plan_load_part (cur:=X) (t:=47) (fr:=(0,0)) rfl rfl 31 (.tmp 17) rfl w.heap.size 1 32 rfl (fun w0 hS => hS.2) Tryz.underlying31 rfl sizeP (by rw [HX.out.1]; omega) K HX.out.2.1 ?_
 simp only [Act.put,nAq,nBq,nCq]
 refine plan_look rfl rfl (fun w0 hS => (by clear hS; go_simp; try rfl)) ?_
 simp only [Act.put,nAq,nBq,nCq]
 refine plan_look (v:=.slice ao val.length cap) rfl rfl (fun w0 hS => (by have c1:=row_cell hS.2 HX.out.2.2; clear hS; go_simp; try rfl)) ?_
 simp only [Act.put,nAq,nBq,nCq]
 refine plan_do rfl ?_
 go_wp2_with fail
 refine (HC1.out _ H0.out.2.2.drew).mono ?_; rintro e w2 ⟨y,rfl,hy,a2⟩
 have H2:=(hIq (a2.row (row_drew H0.out.1) id) (aIq (a2.row (row_drew H0.out.2.1) id) (aIq (H0.out.2.2.drew.trans a2 (fun _ => fEq)) hy)))
 clear a2 hy
 dsimp only
 go_step
 refine wpList_nil ?_
 change _ ∧ _
 refine ⟨⟨H2.out.1,H2.out.2.1⟩,?_⟩
 iterate 4
  refine plan_look rfl rfl (fun w0 hS => (by clear hS; go_simp; try rfl)) ?_
  simp only [Act.put,nAq,nBq,nCq]
 refine plan_end ?_; simp only [List.drop_succ_cons,List.drop_zero]
 go_wp2
 refine NoPanic.normal ?_
 go_wp2
 refine wp_region_plan (fun wz => wz.heap[c]? = some (.cells R 45 (0,0)) ∧ wz.heap[w.heap.size]? = some (.cells X 47 (0,0))) 14 [(0,false),(1,false),(2,false),(3,false),(4,false),(5,false),(6,false),(7,false),(8,false),(9,true),(10,false),(11,false),(12,false),(13,false)] (by kernel_rfl) (by kernel_rfl) ?_ ?_
 · exact ⟨row_drew H2.out.1,row_drew H2.out.2.1⟩
 iterate 3
  refine plan_look rfl rfl (fun w0 hS => (by clear hS; go_simp; try rfl)) ?_
  simp only [Act.put,nAq,nBq,nCq]
 refine plan_look (v:=.pointer (some ⟨b,0,none⟩)) rfl rfl (fun w0 hS => (by have c1:=row_cell hS.1 HRR.out.2; clear hS; go_simp; try rfl)) ?_
 simp only [Act.put,nAq,nBq,nCq]
 iterate 2
  refine plan_look rfl rfl (fun w0 hS => (by clear hS; go_simp; try rfl)) ?_
  simp only [Act.put,nAq,nBq,nCq]
 refine plan_load_part (cur:=X) (t:=47) (fr:=(0,0)) rfl rfl 31 (.tmp 30) rfl w.heap.size 1 32 rfl (fun w0 hS => hS.2) Tryz.underlying31 rfl sizeP (by rw [HX.out.1]; omega) K HX.out.2.1 ?_
 simp only [Act.put,nAq,nBq,nCq]
 refine plan_look rfl rfl (fun w0 hS => (by clear hS; go_simp; try rfl)) ?_
 simp only [Act.put,nAq,nBq,nCq]
 refine plan_look (v:=.slice ao val.length cap) rfl rfl (fun w0 hS => (by have c1:=row_cell hS.2 HX.out.2.2; clear hS; go_simp; try rfl)) ?_
 simp only [Act.put,nAq,nBq,nCq]
 refine plan_do rfl ?_
 go_wp2_with fail
 refine (HC2.out _ H2.out.2.2.1.drew y H2.out.2.2.2).mono ?_; rintro e w3 ⟨rfl,a3⟩
 have H3:=(hIq (a3.row (row_drew H2.out.1) id) (aIq (a3.row (row_drew H2.out.2.1) id) (H2.out.2.2.1.drew.trans a3 (fun _ => fEq))))
 clear a3
 dsimp only
 go_step
 refine wpList_nil ?_
 change _ ∧ _
 refine ⟨⟨H3.out.1,H3.out.2.1⟩,?_⟩
 iterate 4
  refine plan_look rfl rfl (fun w0 hS => (by clear hS; go_simp; try rfl)) ?_
  simp only [Act.put,nAq,nBq,nCq]
 refine plan_end ?_; simp only [List.drop_succ_cons,List.drop_zero]
 go_wp2
 refine NoPanic.normal ?_
 go_wp2
 go_ret
 exact ⟨rfl,H3.out.2.2⟩
theorem ScAt.ltG (h:ScAt w0 w c s b σ τ root aside G):∀ k,G k → k < w.heap.size:=by
 obtain ⟨_,_,_,_,_,_,_,_,_,_,_,_,_,_,h11⟩:=h
 exact fun k hk => (h11 k hk).2.2.2.2
theorem lent_row {w:World} {g:Nat} {bs:List UInt8} (h:w.heap[g]? = some (.cells (brow (lent bs)) 5 (0,0))) (hl:bs.length ≤ 4000):BytesRow w 0 (.slice (some ⟨g,0,none⟩) bs.length (bs.length + 5)) bs :=
 .inr ⟨g,_,lent bs,rfl,Nat.zero_le _,h,lent_length bs,List.take_left,by unfold maxLen; omega,by omega⟩
def PutRet (σ:SlabSt Nd) (r:Int) (x:Act9) (y:Int) (σ1:SlabSt Nd) (e:Ending):Prop:=e = .returned (.tuple #[.int .i64 y,.int .i64 (putErr σ r x.val),.bool true]) ∧ PutTo σ r x.key x.val y σ1
def PutScene (w0 w:World) (c s b:Nat) (σ:SlabSt Nd) (root:Int) (aside:List Int) (G:Nat → Prop) (r:Int) (x:Act9):Prop :=
 Calls Tryz.prog 22 #[.pointer (some ⟨c,0,none⟩),.int .i64 r,.agg x.cells] w fun e w' => ∃ (y:Int) (σ1:SlabSt Nd),PutRet σ r x y σ1 e ∧ ScAt w0 w' c s b σ1 σ1 root aside G ∧ But G w w'
theorem put_scene (h:ScAt w0 w c s b σ σ root aside G) (GG:Good σ) (r:Int) (x:Act9) (hx:x.Good w0) (hlen:x.val.length ≤ 2000) :
 PutScene w0 w c s b σ root aside G r x:=by
 unfold PutScene PutRet
 obtain ⟨kind,key,vv,val,hh⟩:=x
 obtain ⟨hk,hb,hbk⟩:=hx
 simp only at hk hb hbk hlen ⊢
 have q1:=Act9.at_key (x:=⟨kind,key,vv,val,hh⟩) hk
 have q2:=Act9.at_val (x:=⟨kind,key,vv,val,hh⟩) hk
 have qs:=Act9.size (x:=⟨kind,key,vv,val,hh⟩) hk
 obtain ⟨X,hX⟩:∃ X,X = Act9.cells ⟨kind,key,vv,val,hh⟩:=⟨_,rfl⟩
 rw [← hX] at q1 q2 qs
 rw [← hX]
 simp only at q1 q2
 obtain ⟨ao,cap,hvv,_⟩:=hb.form
 obtain ⟨K,hK⟩:∃ K,K = brow key:=⟨_,rfl⟩
 rw [← hK] at q1
 obtain ⟨er,her⟩:∃ er,er = putErr σ r val:=⟨_,rfl⟩
 rw [← her]
 have hbw:=fun w1 (a:Adds w0 w1) => hb.keep a (fun _ _ h => h)
 have hLB:=LentBytes_ok (hbw _ (h.world.trans ((Ch.refl (fun _ => False) w).alloc (.cells X 47)) (fun _ => fEq))) (by omega)
 have hx0:=heap_alloc_new w (.cells X 47)
 have a0:Adds w (w.alloc (.cells X 47)):=(Ch.refl (fun _ => False) w).alloc _
 have hsz0:(w.alloc (.cells X 47)).heap.size = w.heap.size + 1:=by simp
 rw [hsz0] at hLB
 obtain ⟨n,hn⟩:∃ n,n = val.length:=⟨_,rfl⟩
 rw [← hn] at hLB hvv
 have hg0:w0.heap.size ≤ w.heap.size:=h.world.size
 have HLB:=Lib.hid hLB
 have HX:=(hIq qs (aIq q1 q2))
 have H0:=(hIq hx0 (aIq a0 (aIq hsz0 hg0)))
 have HS:=Lib.hid h
 have HG:=Lib.hid GG
 have HB:=Lib.hid hbw
 have HKK:=(hIq hK (aIq hk her))
 have cv:=row_cell hx0 q2
 clear hLB q1 q2 qs hX hK her hx0 a0 hsz0 hg0 hb hbw hbk hk h GG
 subst hvv
 have HL4:=Lib.hid (by omega:val.length ≤ 4000)
 have HN:=Lib.hid hn
 clear hn hlen
 go_enter Tryz.func22,Tryz.ntmps22
 go_wp2_with fail
 refine HLB.out.mono ?_; rintro e w1 ⟨rfl,rg,a1⟩
 have hB1:=a1.row H0.out.1 id
 have aw1:Adds w w1:=H0.out.2.1.trans a1 (fun _ => fEq)
 have lg:=row_lt rg
 have S1:ScAt w0 w1 c s b σ σ root aside (fun k => G k ∨ k = w.heap.size ∨ k = w.heap.size + 1):=HS.out.more aw1 (fun k hk => by
  rcases hk with hk | rfl | rfl
  · exact .inl hk
  · exact .inr ⟨Nat.le_refl _,by omega⟩
  exact .inr ⟨by omega,by omega⟩)
 have H1:=(hIq S1 (aIq hB1 (aIq rg aw1)))
 have hgg:=HS.out.ltG
 have HGG:=Lib.hid hgg
 clear hgg
 clear cv hB1 aw1 lg S1 rg a1
 obtain ⟨aa,ac,hr,_⟩:=H1.out.1.row
 have hput:Calls Tryz.prog 80 #[.pointer (some ⟨s,0,none⟩),.int .i64 r,.agg K,.slice (some ⟨w.heap.size + 1,0,none⟩) n (n + 5)] w1.drew fun e w' => ∃ σ',(∃ y,e = .returned (.tuple #[.int .i64 y,.int .i64 er]) ∧ PutTo σ r key val y σ') ∧ ScAt w0 w' c s b σ' σ root aside (fun k => G k ∨ k = w.heap.size ∨ k = w.heap.size + 1) ∧ But (fun k => G k ∨ k = w.heap.size ∨ k = w.heap.size + 1) w1.drew w':=by
  refine ScAt.impl (P:=fun e σ' => ∃ y,e = .returned (.tuple #[.int .i64 y,.int .i64 er]) ∧ PutTo σ r key val y σ') (H1.out.1.adds (Ch.refl _ _).drew) (fun G' o => ?_)
  have hbr:=(lent_row (row_drew H1.out.2.2.1) HL4.out)
  have:=Put_any o HG.out r HKK.out.2.1 hbr.bytes (fun _ k hk => (hbr.lt k hk).2)
  rw [← HKK.out.1, ← HKK.out.2.2, ← HN.out] at this
  refine this.mono ?_
  rintro e w' ⟨y,σ',he,hp,ho,hB⟩
  exact ⟨σ',⟨y,he,hp⟩,ho,hB⟩
 have HP:=Lib.hid hput
 have HR:=(hIq (row_drew hr) (row_drew H1.out.2.1))
 clear hput hr
 go_wp2
 refine wp_region_plan (fun wz => (∃ va,wz.heap[c]? = some (.cells #[.pointer (some ⟨s,0,none⟩),.pointer (some ⟨b,0,none⟩),.int .i64 root,va] 45 (0,0))) ∧ wz.heap[w.heap.size]? = some (.cells X 47 (0,0))) 13 [(0,false),(1,false),(2,false),(3,false),(4,false),(5,false),(6,false),(7,false),(8,true),(9,false),(10,false),(11,false),(12,false)] (by kernel_rfl) (by kernel_rfl) ?_ ?_
 · exact ⟨⟨_,HR.out.1⟩,HR.out.2⟩
 iterate 3
  refine plan_look rfl rfl (fun w0 hS => (by clear hS; go_simp; try rfl)) ?_
  simp only [Act.put,nAq,nBq,nCq]
 refine plan_look (v:=.pointer (some ⟨s,0,none⟩)) rfl rfl (fun w0 hS => (by obtain ⟨⟨va,hva⟩,_⟩:=hS; have c1:=row_cell hva (i:=0) rfl; clear hva; go_simp; try rfl)) ?_
 simp only [Act.put,nAq,nBq,nCq]
 iterate 2
  refine plan_look rfl rfl (fun w0 hS => (by clear hS; go_simp; try rfl)) ?_
  simp only [Act.put,nAq,nBq,nCq]
 refine plan_load_part (cur:=X) (t:=47) (fr:=(0,0)) rfl rfl 31 (.tmp 24) rfl w.heap.size 1 32 rfl (fun w0 hS => hS.2) Tryz.underlying31 rfl sizeP (by rw [HX.out.1]; omega) K HX.out.2.1 ?_
 simp only [Act.put,nAq,nBq,nCq]
 refine plan_look rfl rfl (fun w0 hS => (by clear hS; go_simp; try rfl)) ?_
 simp only [Act.put,nAq,nBq,nCq]
 refine plan_do rfl ?_
 go_wp2_with fail
 refine HP.out.mono ?_; rintro e w2 ⟨σ',⟨y,rfl,hp⟩,S2,B2⟩
 have hx2:=B2.row (row_drew H1.out.2.1) (.inr (.inl rfl))
 have hg2:=B2.row (row_drew H1.out.2.2.1) (.inr (.inr rfl))
 obtain ⟨aa2,ac2,hr2,_⟩:=S2.row
 have hP:∀ (w1:World) (S1:ScAt w0 w1 c s b σ' σ root aside (fun k => G k ∨ k = w.heap.size ∨ k = w.heap.size + 1)),Calls Tryz.prog 81 #[.pointer (some ⟨b,0,none⟩),.int .i64 r,.agg K,.slice ao n cap] w1 fun e w' => ∃ τ',(e = .returned (.tuple #[.int .i64 y,.int .i64 er]) ∧ τ' = σ') ∧ ScAt w0 w' c s b σ' τ' root aside (fun k => G k ∨ k = w.heap.size ∨ k = w.heap.size + 1) ∧ But (fun k => G k ∨ k = w.heap.size ∨ k = w.heap.size + 1) w1 w':=fun w1 S1 => by
  refine ScAt.refr (P:=fun e τ' => e = .returned (.tuple #[.int .i64 y,.int .i64 er]) ∧ τ' = σ') S1 (fun G' o => ?_)
  have:=Put9_any o HG.out r HKK.out.2.1 (HB.out w1 S1.world) hp
  rw [← HKK.out.1, ← HKK.out.2.2] at this
  refine this.mono ?_
  rintro e w' ⟨he,ho,hB⟩
  exact ⟨σ',⟨he,rfl⟩,ho,hB⟩
 have bw2:But G w w2:=((Adds.but H1.out.2.2.2).then (Adds.but (Ch.refl _ w1).drew)).then (B2.less (fun k hk => .inl hk))
 have BW2:=Lib.hid bw2
 have H2:=(hIq S2 (aIq hg2 hp))
 have HP2:=Lib.hid (hP _ (S2.adds (Ch.refl _ _).drew))
 have HR2:=(hIq hr2 hx2)
 clear hr2 hx2 hg2 hp hP S2 B2 bw2
 dsimp only
 go_step
 refine wpList_nil ?_
 change _ ∧ _
 refine ⟨⟨⟨_,HR2.out.1⟩,HR2.out.2⟩,?_⟩
 iterate 4
  refine plan_look rfl rfl (fun w0 hS => (by clear hS; go_simp; try rfl)) ?_
  simp only [Act.put,nAq,nBq,nCq]
 refine plan_end ?_; simp only [List.drop_succ_cons,List.drop_zero]
 go_wp2
 refine NoPanic.normal ?_
 go_wp2
 refine wp_region_plan (fun wz => (∃ va,wz.heap[c]? = some (.cells #[.pointer (some ⟨s,0,none⟩),.pointer (some ⟨b,0,none⟩),.int .i64 root,va] 45 (0,0))) ∧ wz.heap[w.heap.size]? = some (.cells X 47 (0,0))) 14 [(0,false),(1,false),(2,false),(3,false),(4,false),(5,false),(6,false),(7,false),(8,false),(9,true),(10,false),(11,false),(12,false),(13,false)] (by kernel_rfl) (by kernel_rfl) ?_ ?_
 · exact ⟨⟨_,row_drew HR2.out.1⟩,row_drew HR2.out.2⟩
 iterate 3
  refine plan_look rfl rfl (fun w0 hS => (by clear hS; go_simp; try rfl)) ?_
  simp only [Act.put,nAq,nBq,nCq]
 refine plan_look (v:=.pointer (some ⟨b,0,none⟩)) rfl rfl (fun w0 hS => (by obtain ⟨⟨va,hva⟩,_⟩:=hS; have c1:=row_cell hva (i:=1) rfl; clear hva; go_simp; try rfl)) ?_
 simp only [Act.put,nAq,nBq,nCq]
 iterate 2
  refine plan_look rfl rfl (fun w0 hS => (by clear hS; go_simp; try rfl)) ?_
  simp only [Act.put,nAq,nBq,nCq]
 refine plan_load_part (cur:=X) (t:=47) (fr:=(0,0)) rfl rfl 31 (.tmp 36) rfl w.heap.size 1 32 rfl (fun w0 hS => hS.2) Tryz.underlying31 rfl sizeP (by rw [HX.out.1]; omega) K HX.out.2.1 ?_
 simp only [Act.put,nAq,nBq,nCq]
 refine plan_look rfl rfl (fun w0 hS => (by clear hS; go_simp; try rfl)) ?_
 simp only [Act.put,nAq,nBq,nCq]
 refine plan_look (v:=.slice ao n cap) rfl rfl (fun w0 hS => (by have c1:=row_cell hS.2 HX.out.2.2; clear hS; go_simp; try rfl)) ?_
 simp only [Act.put,nAq,nBq,nCq]
 refine plan_do rfl ?_
 go_wp2_with fail
 refine HP2.out.mono ?_; rintro e w3 ⟨τ',⟨rfl,rfl⟩,S3,B3⟩
 have hx3:=B3.row (row_drew HR2.out.2) (.inr (.inl rfl))
 have hg3:=B3.row (row_drew H2.out.2.1) (.inr (.inr rfl))
 obtain ⟨aa3,ac3,hr3,_⟩:=S3.row
 have BW3:=Lib.hid ((BW2.out.then (Adds.but (Ch.refl _ w2).drew)).then (B3.less (fun k hk => .inl hk)))
 have H3:=(hIq S3 (aIq hg3 H2.out.2.2))
 have HR3:=(hIq hr3 hx3)
 clear hr3 hx3 hg3 S3 B3 H2 HP2 HP
 dsimp only
 go_step
 refine wpList_nil ?_
 change _ ∧ _
 refine ⟨⟨⟨_,HR3.out.1⟩,HR3.out.2⟩,?_⟩
 iterate 4
  refine plan_look rfl rfl (fun w0 hS => (by clear hS; go_simp; try rfl)) ?_
  simp only [Act.put,nAq,nBq,nCq]
 refine plan_end ?_; simp only [List.drop_succ_cons,List.drop_zero]
 go_wp2
 refine NoPanic.normal ?_
 have hkb:=KeptBytes_ok H3.out.2.1 (HB.out w3 H3.out.1.world) HL4.out
 rw [← HN.out] at hkb
 have HKB:=Lib.hid hkb
 have cv3:=row_cell HR3.out.2 HX.out.2.2
 clear hkb
 go_wp2_with fail
 refine HKB.out.mono ?_; rintro e w4 ⟨rfl,a4⟩
 have S4:=H3.out.1.adds a4
 have BW4:=Lib.hid (BW3.out.then (Adds.but a4))
 have hob:=OverBytes_ok (lent_row (a4.row H3.out.2.1 id) HL4.out)
 rw [← HN.out] at hob
 have H4:=Lib.hid S4
 have HOB:=Lib.hid hob
 clear cv3 a4 S4 hob
 go_wp2_with fail
 refine HOB.out.mono ?_; rintro e w5 ⟨⟨u,rfl⟩,c5⟩
 have S5:=H4.out.keepG c5 (fun k hk => by
  have hk':k = w.heap.size + 1:=by cases hk; rfl
  exact ⟨.inr (.inr hk'),by have:=H0.out.2.2.2; omega⟩)
 have H5:=Lib.hid S5
 have BW5:=Lib.hid (BW4.out.then (c5.mono (fun k _ hk hg => by
  have h1:=HGG.out k hg
  have hk':k = w.heap.size + 1:=by cases hk; rfl
  omega)))
 clear S5 c5
 go_wp2
 go_ret3
 exact ⟨y,τ',⟨rfl,H3.out.2.2⟩,H5.out.less (fun k hk => .inl hk),BW5.out⟩
end
end Go.Proofs.YtmeglndnkdgkoaaGreat.Store

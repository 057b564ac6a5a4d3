/- Laws of the layers below. -/
import Derived.Test.YtmeglndnkdgkoaaGreatQe37
set_option maxHeartbeats 3200000
set_option maxRecDepth 100000
set_option linter.unusedVariables false
namespace Go.Proofs.YtmeglndnkdgkoaaGreat.Store
open Go.RowKit Go.Proofs.YtmeglndnkdgkoaaGreat.ShaW Go.Proofs.YtmeglndnkdgkoaaGreat.Path Go.Proofs.YtmeglndnkdgkoaaGreat.Law9
def AllB (w:World) (x:Value) (all:List UInt8):Prop :=
 (x = .slice none 0 0 ∧ all = []) ∨ ∃ g n,x = .slice (some ⟨g,0,none⟩) n all.length ∧ n ≤ all.length ∧ all.length ≤ maxLen ∧ w.heap[g]? = some (.cells (brow all) 5 (0,0))
def wholeV:Value → Value
 | .slice (some a) _ c => .slice (some a) c c
 | _ => .slice none 0 0
section
variable {w w' : World} {x : Value} {all : List UInt8}
theorem BytesRow.whole {n0:Nat} {v:Value} {bs:List UInt8} (h:BytesRow w n0 v bs):∃ all,AllB w v all:=by
 rcases h with ⟨h1,h2⟩ | ⟨g,c,all,h1,h2,h3,h4,h5,h6,h7⟩
 · exact ⟨[],.inl ⟨h1,rfl⟩⟩
 subst h4
 exact ⟨all,.inr ⟨g,_,h1,h7,h6,h3⟩⟩
theorem AllB.keep (h:AllB w x all) {C:Nat → Prop} (c:Ch C w w') (hd:∀ k,x.ownBlock = some k → ¬ C k):AllB w' x all:=by
 rcases h with h | ⟨g,n,rfl,h1,h2,h3⟩
 · exact .inl h
 exact .inr ⟨g,n,rfl,h1,h2,c.row h3 (hd g rfl)⟩
theorem AllB.form (h:AllB w x all):∃ ao n,x = .slice ao n all.length ∧ (all.length:Int) ≤ 9223372036854775807:=by
 rcases h with ⟨rfl,rfl⟩ | ⟨g,n,rfl,h1,h2,h3⟩
 · exact ⟨_,_,rfl,by decide⟩
 exact ⟨_,_,rfl,by unfold maxLen at h2; omega⟩
theorem AllB.cut (h:AllB w x all) (w1:World):(Instr.sliceAt 32 x none (some (.int .i64 (all.length:Int))) none).run Tryz.prog w1 = .ok (wholeV x) w1:=by
 rcases h with ⟨rfl,rfl⟩ | ⟨g,n,rfl,h1,h2,h3⟩
 · kernel_rfl
 exact slice_whole g n all.length h1 (by unfold maxLen at h2; omega) w1
theorem AllB.conv (h:AllB w x all):(convert 32 9 (wholeV x)).run Tryz.prog w = .ok (.string (bstr all)) w:=by
 rcases h with ⟨rfl,rfl⟩ | ⟨g,n,rfl,h1,h2,h3⟩
 · exact conv_bytes (Bytes.nil w)
 exact conv_bytes (Bytes.row (w:=w) h3 rfl h2)
theorem OverAll_ok (h:AllB w x all) :
 Calls Tryz.prog 64 #[x] w fun e w' => (∃ u,e = .returned u) ∧ Ch (fun k => x.ownBlock = some k) w w' ∧ ∃ all',all'.length = all.length ∧ AllB w' x all':=by
 rcases h with ⟨rfl,rfl⟩ | ⟨g,n,rfl,h1,h2,h3⟩
 · have hs:∀ w0:World,(Instr.sliceAt 32 (.slice none 0 0) none (some (.int .i64 0)) none).run Tryz.prog w0 = .ok (.slice none 0 0) w0:=fun w0 => by kernel_rfl
   go_enter Tryz.func64,Tryz.ntmps64
   go_wp2
   go_loopw [3] (fun i wr => i = .int .i64 0 ∧ wr = w) (fun i _ => 0)
   case atStart => exact ⟨rfl,rfl⟩
   obtain ⟨rfl,rfl⟩:=hrel
   go_wp2
   go_end0
   exact ⟨⟨_,rfl⟩,Ch.refl _ _,[],rfl,.inl ⟨rfl,rfl⟩⟩
 obtain ⟨c,hc⟩:∃ c,c = all.length:=⟨_,rfl⟩
 rw [← hc] at h1 h2 ⊢
 have hs:=fun w1 => slice_whole g n c h1 (by unfold maxLen at h2; omega) w1
 have hcm:(c:Int) ≤ 9223372036854775807:=by unfold maxLen at h2; omega
 have HAll:=(hIq h3 (aIq hc.symm (aIq h1 h2)))
 clear h1 h2 h3 hc
 go_enter Tryz.func64,Tryz.ntmps64
 go_wp2
 go_loopw [3] (fun i wr => ∃ (k:Nat) (l:List UInt8),k ≤ c ∧ i = .int .i64 k ∧ wr.heap[g]? = some (.cells (brow l) 5 (0,0)) ∧ l.length = c ∧ Ch (fun j => j = g) w wr) (fun i _ => c - (intOf i).toNat)
 case atStart => exact ⟨0,all,Nat.zero_le _,rfl,HAll.out.1,HAll.out.2.1,Ch.refl _ _⟩
 obtain ⟨k,l,hk,rfl,hrow,hl,hch⟩:=hrel
 by_cases hlt:k < c
 · obtain ⟨x,hx⟩:∃ x,l[k]? = some x:=⟨_,List.getElem?_eq_getElem (by omega)⟩
   have c1:wr.cell? ⟨g,k,none⟩ = some (bv x):=row_cell hrow (by unfold brow; rw [List.getElem?_toArray,List.getElem?_map,hx]; rfl)
   have f1:=row_free hrow k
   have hb:=over_bits x
   have hkc:(k:Int) < (c:Int):=by omega
   have hset:=row_set_same hrow k (bv (over x))
   have hbr:(brow l).setIfInBounds k (bv (over x)) = brow (l.set k (over x)):=by
    apply Array.ext'
    simp [brow,List.map_set]
   rw [hbr] at hset
   have HS:=(hIq hset (aIq hl hch))
   generalize over x = y at hb HS
   clear hrow hx hset hbr hl hch hk
   go_wp2
   go_roundw
   case rel => exact ⟨k + 1,_,by omega,by first | rfl | simp,HS.out.1,by rw [List.length_set]; exact HS.out.2.1,HS.out.2.2.setCell (p:=⟨g,k,none⟩) (.inl rfl) _⟩
   simp [intOf]; omega
 obtain rfl:k = c:=by omega
 have HC:=(hIq hch (aIq hrow hl))
 clear hrow hl hch hk hlt
 go_wp2
 go_end0
 refine ⟨⟨_,rfl⟩,HC.out.1.mono (fun j _ hj => by rw [hj]; rfl),l,HC.out.2.2,.inr ⟨g,n,by rw [HC.out.2.2],by rw [HC.out.2.2]; exact HAll.out.2.2.1,by rw [HC.out.2.2]; exact HAll.out.2.2.2,HC.out.2.1⟩⟩
def LsAt (ls:Nat → Value) (bf:Nat → List UInt8) (gl:Nat) (wz:World):Prop:=(∀ j,j < 2 → AllB wz (ls j) (bf j)) ∧ wz.heap[gl]? = some (.cells #[ls 0,ls 1] 32 (0,0))
theorem LsAt.keep {ls:Nat → Value} {bf:Nat → List UInt8} {gl:Nat} (h:LsAt ls bf gl w) {C:Nat → Prop} (c:Ch C w w') (hd:∀ j k,j < 2 → (ls j).ownBlock = some k → ¬ C k) (hg:¬ C gl):LsAt ls bf gl w' :=
 ⟨fun j hj => (h.1 j hj).keep c (fun k hk => hd j k hj hk),c.row h.2 hg⟩
theorem LsAt.adds {ls:Nat → Value} {bf:Nat → List UInt8} {gl:Nat} (h:LsAt ls bf gl w) (c:Adds w w'):LsAt ls bf gl w':=h.keep c (fun _ _ _ _ h => h) id
theorem two_get (ls:Nat → Value) {j:Nat} (hj:j < 2):(#[ls 0,ls 1]:Array Value)[j]? = some (ls j):=by
 have:j = 0 ∨ j = 1:=by omega
 rcases this with rfl | rfl <;> rfl
theorem Apart_ok {ls:Nat → Value} {bf:Nat → List UInt8} {gl:Nat} (h:LsAt ls bf gl w) (hd:∀ i j k,i < 2 → j < 2 → i ≠ j → (ls i).ownBlock = some k → (ls j).ownBlock ≠ some k) (hgl:∀ j,j < 2 → (ls j).ownBlock ≠ some gl) :
 Calls Tryz.prog 37 #[.slice (some ⟨gl,0,none⟩) 2 2] w fun e w' => e = .returned (.bool true) ∧ Ch (fun k => ∃ j,j < 2 ∧ (ls j).ownBlock = some k) w w' ∧ ∃ bf',LsAt ls bf' gl w':=by
 have hmk:∀ w:World,(Instr.makeSlice 170 (.int .i64 2) (.int .i64 2)).run Tryz.prog w = .ok (.slice (some ⟨w.heap.size,0,none⟩) 2 2) (w.alloc (.cells (madeCells #[.string ByteArray.empty] 2) 9)):=fun w =>
  run_make_row' 170 9 (.string ByteArray.empty) 16 Tryz.underlying170 (by kernel_rfl) rfl .i64 .i64 2 (by omega) (by omega) w
 obtain ⟨MC,hMC⟩:∃ MC,MC = madeCells #[Value.string ByteArray.empty] 2:=⟨_,rfl⟩
 have hMs:MC.size = 2:=by rw [hMC]; exact size_madeCells _ _
 rw [← hMC] at hmk
 have HM:=Lib.hid hMs
 have HH:=Lib.hid h
 have HD:=(hIq hd hgl)
 have lgl:=row_lt h.2
 clear hMC hMs h hd hgl
 go_enter Tryz.func37,Tryz.ntmps37
 go_wp2
 go_loopg [3,4,5,6] 2 (fun g s3 s4 s5 s6 wr => ∃ (i:Nat) (af:Nat → List UInt8),i ≤ 2 ∧ g = 2 - i ∧ s3 = .int .i64 i ∧ LsAt ls af gl wr ∧ Ch (fun k => ∃ j,j < 2 ∧ (ls j).ownBlock = some k) w wr)
 case atStart => exact ⟨0,bf,Nat.zero_le _,rfl,rfl,HH.out,Ch.refl _ _⟩
 obtain ⟨i,af,hi,rfl,rfl,hL,hC⟩:=hrel
 have HL:=(hIq hL hC)
 clear hL hC
 by_cases hlt:i < 2
 · have hi2:(i:Int) < 2:=by omega
   go_wp2
   obtain ⟨w1,hw1⟩:∃ w1,w1 = wr.alloc (.cells MC 9):=⟨_,rfl⟩
   try rw [← hw1]
   have a1:Adds wr w1:=by rw [hw1]; exact (Ch.refl _ _).alloc _
   have r1:w1.heap[wr.heap.size]? = some (.cells MC 9 (0,0)):=by rw [hw1]; exact heap_alloc_new _ _
   have H1:=(hIq a1 r1)
   clear a1 r1 hw1
   obtain ⟨gw,hgw⟩:∃ gw,gw = wr.heap.size:=⟨_,rfl⟩
   rw [← hgw] at H1 ⊢
   have hne:gw ≠ gl ∧ ∀ j k,j < 2 → (ls j).ownBlock = some k → k < gw:=by
    rw [hgw]
    refine ⟨fun e => by have:=row_lt HL.out.1.2; omega,fun j k hj hk => ?_⟩
    rcases HL.out.1.1 j hj with ⟨e,_⟩ | ⟨g,n,e,_,_,h3⟩
    · rw [e] at hk; cases hk
    rw [e] at hk; cases hk; exact row_lt h3
   have hwg:w.heap.size ≤ gw:=by rw [hgw]; exact HL.out.2.size
   have HNE:=(hIq hne hwg)
   have HL1:=(hIq (HL.out.1.adds H1.out.1) (HL.out.2.trans H1.out.1 (fun _ => fEq)))
   clear hgw hne hwg
   go_loopg [5] 2 (fun g s5 wx => ∃ (k:Nat) (SS:Array Value),k ≤ 2 ∧ g = 2 - k ∧ s5 = .int .i64 k ∧ SS.size = 2 ∧ (∀ j,j < k → SS[j]? = some (.string (bstr (af j)))) ∧ wx.heap[gw]? = some (.cells SS 9 (0,0)) ∧ Ch (fun k => k = gw) w1 wx)
   case atStart => exact ⟨0,MC,Nat.zero_le _,rfl,rfl,HM.out,fun j hj => absurd hj (Nat.not_lt_zero j),H1.out.2,Ch.refl _ _⟩
   obtain ⟨k,SS,hk,rfl,rfl,hsz,hin,hrow,hch⟩:=hrel
   have hLx:LsAt ls af gl wr:=HL1.out.1.keep hch (fun j k hj hk e => by have:=HNE.out.1.2 j k hj hk; omega) (fun e => HNE.out.1.1 e.symm)
   have HX:=(hIq hLx (aIq hch (aIq hsz (aIq hin hrow))))
   clear hLx hch hsz hin hrow
   by_cases hkl:k < 2
   · have hk2:(k:Int) < 2:=by omega
     obtain ⟨ao,n,hform,hcap⟩:=(HX.out.1.1 k hkl).form
     have hcut:=fun w1 => (HX.out.1.1 k hkl).cut w1
     have hconv:=fun wz (hz:LsAt ls af gl wz) => (hz.1 k hkl).conv
     have hget:∀ wz,LsAt ls af gl wz → wz.cell? ⟨gl,k,none⟩ = some (ls k):=fun wz hz => row_cell hz.2 (two_get ls hkl)
     obtain ⟨V,hV⟩:∃ V,V = wholeV (ls k):=⟨_,rfl⟩
     rw [← hV] at hcut hconv
     obtain ⟨T,hT⟩:∃ T,T = bstr (af k):=⟨_,rfl⟩
     rw [← hT] at hconv
     rw [hform] at hget hcut
     obtain ⟨cl,hcl⟩:∃ cl,cl = (af k).length:=⟨_,rfl⟩
     rw [← hcl] at hget hcut hcap
     obtain ⟨old,hold⟩:∃ old,SS[k]? = some old:=⟨_,Array.getElem?_eq_getElem (by rw [HX.out.2.2.1]; exact hkl)⟩
     have HGT:=Lib.hid hget
     have HCT:=Lib.hid hcut
     have HCV:=Lib.hid hconv
     have HT:=(hIq hT hold)
     clear hcl hT hV hform hget hcut hconv hold
     go_wp2
     refine wp_region_plan (fun wz => LsAt ls af gl wz) 13 [(0,false),(1,false),(2,false),(3,false),(4,false),(5,false),(6,false),(7,false),(8,false),(9,false),(10,false),(11,false),(12,false)] (by kernel_rfl) (by kernel_rfl) ?_ ?_
     · exact HX.out.1.adds (Ch.refl _ _).drew
     iterate 5
      refine plan_look rfl rfl (fun w0 hS => (by clear hS; go_simp; try rfl)) ?_
      simp only [Act.put,nAq,nBq,nCq]
     refine plan_look (v:=.slice ao n cl) rfl rfl (fun w0 hS => (by have c1:=HGT.out w0 hS; clear hS; go_simp; try rfl)) ?_
     simp only [Act.put,nAq,nBq,nCq]
     iterate 3
      refine plan_look rfl rfl (fun w0 hS => (by clear hS; go_simp; try rfl)) ?_
      simp only [Act.put,nAq,nBq,nCq]
     refine plan_look (v:=.slice ao n cl) rfl rfl (fun w0 hS => (by have c1:=HGT.out w0 hS; clear hS; go_simp; try rfl)) ?_
     simp only [Act.put,nAq,nBq,nCq]
     refine plan_look (v:=.int .i64 (cl:Int)) rfl rfl (fun w0 hS => (by clear hS; go_simp; try rfl)) ?_
     simp only [Act.put,nAq,nBq,nCq]
     refine plan_look (v:=V) rfl rfl (fun w0 hS => (by have q:=HCT.out w0; clear hS; go_simp; try rfl)) ?_
     simp only [Act.put,nAq,nBq,nCq]
     refine plan_convert rfl rfl 32 9 (.tmp 33) (.string T) rfl V rfl (fun w0 hS => HCV.out w0 hS) ?_
     simp only [Act.put,nAq,nBq,nCq]
     refine plan_end ?_; simp only [List.drop_succ_cons,List.drop_zero]
     have c1:=row_cell (row_drew HX.out.2.2.2.2) HT.out.2
     have f1:=row_free (row_drew HX.out.2.2.2.2) k
     have l1:=row_lt (row_drew HX.out.2.2.2.2)
     go_wp2
     refine NoPanic.normal ?_
     go_wp2
     go_roundg (2 - (k + 1))
     case measure => omega
     refine ⟨k + 1,SS.setIfInBounds k (.string T),by omega,rfl,by go_num,by rw [Array.size_setIfInBounds]; exact HX.out.2.2.1,fun j hj => ?_,row_set_same (row_drew HX.out.2.2.2.2) k _,(HX.out.2.1.drew).setCell (p:=⟨gw,k,none⟩) (.inl rfl) _⟩
     by_cases e:j = k
     · subst e
       rw [Array.getElem?_setIfInBounds_self_of_lt (by rw [HX.out.2.2.1]; exact hkl),HT.out.1]
     rw [Array.getElem?_setIfInBounds_ne (Ne.symm e)]
     exact HX.out.2.2.2.1 j (by omega)
   obtain rfl:k = 2:=by omega
   have hk2:¬ (2:Int) < 2:=by omega
   have HIN:=Lib.hid HX.out.2.2.2.1
   have hgi:=row_cell HX.out.1.2 (two_get ls hlt)
   obtain ⟨ai,ni,hfi,hci⟩:=(HX.out.1.1 i hlt).form
   have hov:=OverAll_ok (HX.out.1.1 i hlt)
   have HFI:=Lib.hid hfi
   rw [hfi] at hgi hov
   obtain ⟨ci,hci'⟩:∃ ci,ci = (af i).length:=⟨_,rfl⟩
   rw [← hci'] at hgi hov hci HFI
   have HOV:=Lib.hid hov
   clear hov hci' hfi
   go_wp2_with fail
   refine HOV.out.mono ?_; rintro e w3 ⟨⟨u3,rfl⟩,c3,all3,hl3,hA3⟩
   have hw13:Ch (fun k => ∃ j,j < 2 ∧ (ls j).ownBlock = some k) w w3:=by
    refine (HL1.out.2.trans HX.out.2.1 (fun k e => ?_)).trans c3 (fun k hk => .inl ⟨i,hlt,by rw [HFI.out]; exact hk⟩)
    exact .inr (by rw [e]; exact HNE.out.2)
   have hL3:LsAt ls (fun j => if j = i then all3 else af j) gl w3:=by
    refine ⟨fun j hj => ?_,c3.row HX.out.1.2 (fun e => HD.out.2 i hlt (by rw [HFI.out]; exact e))⟩
    by_cases e:j = i
    · subst e
      simp only [if_true]
      rw [HFI.out]; exact hA3
    simp only [if_neg e]
    exact (HX.out.1.1 j hj).keep c3 (fun k hk hk2 => HD.out.1 j i k hj hlt e hk (by rw [HFI.out]; exact hk2))
   have hr3:=c3.row HX.out.2.2.2.2 (fun e => by have:=HNE.out.1.2 i gw hlt (by rw [HFI.out]; exact e); omega)
   have H3:=(hIq hL3 (aIq hw13 hr3))
   clear c3 hA3 hl3 hw13 hL3 hr3 hgi
   go_wp2
   go_loopg [6] 2 (fun g s6 wx => ∃ k:Nat,k ≤ 2 ∧ g = 2 - k ∧ s6 = .int .i64 k ∧ Adds w3 wx)
   case atStart => exact ⟨0,Nat.zero_le _,rfl,rfl,Ch.refl _ _⟩
   obtain ⟨k,hk,rfl,rfl,hA⟩:=hrel
   have HA:=Lib.hid hA
   clear hA
   by_cases hkl:k < 2
   · have hk2:(k:Int) < 2:=by omega
     by_cases hki:k = i
     · have hn1:((k:Int) != (i:Int)) = false:=by simpa using (show (k:Int) = (i:Int) by omega)
       have hn2:¬ ¬ (k:Int) = (i:Int):=by omega
       have hn3:decide ((k:Int) = (i:Int)) = true:=decide_eq_true (by omega)
       have hn4:((k:Int) == (i:Int)) = true:=by simpa using (show (k:Int) = (i:Int) by omega)
       go_wp2
       refine wp_region_plan (fun _ => True) 21 [(0,false),(1,false),(2,false),(3,false),(4,false),(5,false),(6,false),(7,false),(8,false),(9,false),(10,false),(11,false),(12,false),(13,false),(14,false),(15,false),(16,false),(17,false),(18,false),(19,false),(20,false)] (by kernel_rfl) (by kernel_rfl) ?_ ?_
       · trivial
       iterate 2
        refine plan_look rfl rfl (fun w0 hS => (by clear hS; go_simp; try rfl)) ?_
        simp only [Act.put,nAq,nBq,nCq]
       iterate 2
        refine plan_look (v:=.bool false) rfl rfl (fun w0 hS => (by clear hS; go_simp; try rfl)) ?_
        simp only [Act.put,nAq,nBq,nCq]
       iterate 16
        refine plan_skip rfl (by rfl) ?_
        simp only [Act.put,nAq,nBq,nCq]
       refine plan_look (v:=.bool false) rfl rfl (fun w0 hS => (by clear hS; go_simp; try rfl)) ?_
       simp only [Act.put,nAq,nBq,nCq]
       refine plan_end ?_; simp only [List.drop_succ_cons,List.drop_zero]
       go_wp2
       refine NoPanic.normal ?_
       go_wp2
       go_roundg (2 - (k + 1))
       case measure => omega
       exact ⟨k + 1,by omega,rfl,by go_num,HA.out.drew⟩
     have hn1:((k:Int) != (i:Int)) = true:=by simpa using (show ¬ (k:Int) = (i:Int) by omega)
     have hn2:¬ (k:Int) = (i:Int):=by omega
     have hn4:((k:Int) == (i:Int)) = false:=by simpa using (show ¬ (k:Int) = (i:Int) by omega)
     have hbk:∀ wz,LsAt ls (fun j => if j = i then all3 else af j) gl wz → AllB wz (ls k) (af k):=fun wz hz => by
      have:=hz.1 k hkl
      simp only [if_neg hki] at this
      exact this
     obtain ⟨ak,nk,hfk,hck⟩:=(hbk _ H3.out.1).form
     have hcut:=fun w1 => (hbk _ H3.out.1).cut w1
     have hconv:=fun wz (hz:LsAt ls (fun j => if j = i then all3 else af j) gl wz) => (hbk wz hz).conv
     have hget:∀ wz,LsAt ls (fun j => if j = i then all3 else af j) gl wz → wz.cell? ⟨gl,k,none⟩ = some (ls k):=fun wz hz => row_cell hz.2 (two_get ls hkl)
     obtain ⟨V,hV⟩:∃ V,V = wholeV (ls k):=⟨_,rfl⟩
     rw [← hV] at hcut hconv
     have hin:=HIN.out k hkl
     obtain ⟨T,hT⟩:∃ T,T = bstr (af k):=⟨_,rfl⟩
     rw [← hT] at hconv hin
     rw [hfk] at hget hcut
     obtain ⟨cl,hcl⟩:∃ cl,cl = (af k).length:=⟨_,rfl⟩
     rw [← hcl] at hget hcut hck
     have HGT:=Lib.hid hget
     have HCT:=Lib.hid hcut
     have HCV:=Lib.hid hconv
     have HINK:=Lib.hid hin
     clear hcl hT hV hfk hget hcut hconv hin hbk
     go_wp2
     refine wp_region_plan (fun wz => LsAt ls (fun j => if j = i then all3 else af j) gl wz ∧ wz.heap[gw]? = some (.cells SS 9 (0,0))) 21 [(0,false),(1,false),(2,false),(3,false),(4,false),(5,false),(6,false),(7,false),(8,false),(9,false),(10,false),(11,false),(12,false),(13,false),(14,false),(15,false),(16,false),(17,false),(18,false),(19,false),(20,false)] (by kernel_rfl) (by kernel_rfl) ?_ ?_
     · exact ⟨(H3.out.1.adds HA.out).adds (Ch.refl _ _).drew,row_drew (HA.out.row H3.out.2.2 id)⟩
     iterate 2
      refine plan_look rfl rfl (fun w0 hS => (by clear hS; go_simp; try rfl)) ?_
      simp only [Act.put,nAq,nBq,nCq]
     iterate 2
      refine plan_look (v:=.bool true) rfl rfl (fun w0 hS => (by clear hS; go_simp; try rfl)) ?_
      simp only [Act.put,nAq,nBq,nCq]
     iterate 3
      refine plan_look rfl rfl (fun w0 hS => (by clear hS; go_simp; try rfl)) ?_
      simp only [Act.put,nAq,nBq,nCq]
     refine plan_look (v:=.slice ak nk cl) rfl rfl (fun w0 hS => (by have c1:=HGT.out w0 hS.1; clear hS; go_simp; try rfl)) ?_
     simp only [Act.put,nAq,nBq,nCq]
     iterate 3
      refine plan_look rfl rfl (fun w0 hS => (by clear hS; go_simp; try rfl)) ?_
      simp only [Act.put,nAq,nBq,nCq]
     refine plan_look (v:=.slice ak nk cl) rfl rfl (fun w0 hS => (by have c1:=HGT.out w0 hS.1; clear hS; go_simp; try rfl)) ?_
     simp only [Act.put,nAq,nBq,nCq]
     refine plan_look (v:=.int .i64 (cl:Int)) rfl rfl (fun w0 hS => (by clear hS; go_simp; try rfl)) ?_
     simp only [Act.put,nAq,nBq,nCq]
     refine plan_look (v:=V) rfl rfl (fun w0 hS => (by have q:=HCT.out w0; clear hS; go_simp; try rfl)) ?_
     simp only [Act.put,nAq,nBq,nCq]
     refine plan_convert rfl rfl 32 9 (.tmp 60) (.string T) rfl V rfl (fun w0 hS => HCV.out w0 hS.1) ?_
     simp only [Act.put,nAq,nBq,nCq]
     iterate 3
      refine plan_look rfl rfl (fun w0 hS => (by clear hS; go_simp; try rfl)) ?_
      simp only [Act.put,nAq,nBq,nCq]
     refine plan_look (v:=.string T) rfl rfl (fun w0 hS => (by have c1:=row_cell hS.2 HINK.out; clear hS; go_simp; try rfl)) ?_
     simp only [Act.put,nAq,nBq,nCq]
     refine plan_look (v:=.bool false) rfl rfl (fun w0 hS => (by clear hS; go_simp; try rfl)) ?_
     simp only [Act.put,nAq,nBq,nCq]
     refine plan_look (v:=.bool false) rfl rfl (fun w0 hS => (by clear hS; go_simp; try rfl)) ?_
     simp only [Act.put,nAq,nBq,nCq]
     refine plan_end ?_; simp only [List.drop_succ_cons,List.drop_zero]
     go_wp2
     refine NoPanic.normal ?_
     go_wp2
     go_roundg (2 - (k + 1))
     case measure => omega
     exact ⟨k + 1,by omega,rfl,by go_num,HA.out.drew⟩
   obtain rfl:k = 2:=by omega
   have hk2:¬ (2:Int) < 2:=by omega
   have hL4:=H3.out.1.adds HA.out
   have hg4:=row_cell hL4.2 (two_get ls hlt)
   have hov:=OverAll_ok (hL4.1 i hlt)
   rw [HFI.out] at hg4 hov
   have H4:=(hIq hL4 (H3.out.2.1.trans HA.out (fun _ => fEq)))
   have HOV2:=Lib.hid hov
   clear hov hL4
   go_wp2_with fail
   refine HOV2.out.mono ?_; rintro e w5 ⟨⟨u5,rfl⟩,c5,all5,hl5,hA5⟩
   have hL5:LsAt ls (fun j => if j = i then all5 else (if j = i then all3 else af j)) gl w5:=by
    refine ⟨fun j hj => ?_,c5.row H4.out.1.2 (fun e => HD.out.2 i hlt (by rw [HFI.out]; exact e))⟩
    by_cases e:j = i
    · subst e
      simp only [if_true]
      rw [HFI.out]; exact hA5
    simp only [if_neg e]
    have:=H4.out.1.1 j hj
    simp only [if_neg e] at this
    exact this.keep c5 (fun k hk hk2 => HD.out.1 j i k hj hlt e hk (by rw [HFI.out]; exact hk2))
   have H5:=(hIq hL5 (H4.out.2.trans c5 (fun k hk => .inl ⟨i,hlt,by rw [HFI.out]; exact hk⟩)))
   clear hL5 c5 hA5 hl5 hg4
   go_wp2
   go_roundg (2 - (i + 1))
   case measure => omega
   exact ⟨i + 1,_,by omega,rfl,by go_num,H5.out.1,H5.out.2⟩
 obtain rfl:i = 2:=by omega
 have hi2:¬ (2:Int) < 2:=by omega
 go_wp2
 go_ret
 exact ⟨rfl,HL.out.2,af,HL.out.1⟩
end
section
variable {w0 w w' : World} {s b : Nat} {F G : Nat → Prop} {σ : SlabSt Nd}
theorem depth_is (GG:Good σ) (n:Int):(if (nd σ n).kind = 2 then (nd σ n).depth else -1) = depth σ n:=by
 unfold depth
 cases hs:σ.get? n with
 | none => rw [nd_none hs,has_none hs]; rfl
 | some x =>
  rw [nd_some hs,has_some hs]
  by_cases h2:x.1.kind = 2
  · rw [if_pos h2]; rfl
  rw [if_neg h2]
  have:=(GG.fit.leaf (sk_some hs) h2).2.depth
  have e:x.1.depth = -1:=this
  rw [e]; rfl
theorem ROw.hasR (h:ROw w0 w b σ G) (GG:Good σ) (n:Int):Calls Tryz.prog 137 #[.pointer (some ⟨b,0,none⟩),.int .i64 n] w fun e w' => e = .returned (.bool (has σ n)) ∧ Adds w w':=by
 obtain ⟨ρ,F,h1,L,_⟩:=h
 exact (RHas_ok h1 n).mono fun e w' ⟨he,hw⟩ => ⟨by rw [he,L.has GG],hw ▸ Ch.refl _ _⟩
theorem ROw.depthR (h:ROw w0 w b σ G) (GG:Good σ) (n:Int):Calls Tryz.prog 148 #[.pointer (some ⟨b,0,none⟩),.int .i64 n] w fun e w' => e = .returned (.int .i64 (depth σ n)) ∧ Adds w w':=by
 obtain ⟨ρ,F,h1,L,_⟩:=h
 refine (RDepth_ok h1 n).mono fun e w' ⟨he,a⟩ => ⟨?_,a⟩
 rw [he, ← depth_is GG n, ← L.depth GG n]
 rfl
theorem ROw.sizeR (h:ROw w0 w b σ G) (GG:Good σ) (n:Int):Calls Tryz.prog 149 #[.pointer (some ⟨b,0,none⟩),.int .i64 n] w fun e w' => e = .returned (.int .i64 (nd σ n).size) ∧ Adds w w':=by
 obtain ⟨ρ,F,h1,L,_⟩:=h
 exact RSize_ok h1 L GG n
theorem ROw.countR (h:ROw w0 w b σ G) (GG:Good σ) (n:Int):Calls Tryz.prog 119 #[.pointer (some ⟨b,0,none⟩),.int .i64 n] w fun e w' => e = .returned (.int .i64 (σ.count n:Nat)) ∧ Adds w w':=by
 obtain ⟨ρ,F,h1,L,_⟩:=h
 exact (RCount_ok h1 n).mono fun e w' ⟨he,a⟩ => ⟨by rw [he,L.count GG],a⟩
theorem ROw.keyR (h:ROw w0 w b σ G) (GG:Good σ) (n:Int):Calls Tryz.prog 153 #[.pointer (some ⟨b,0,none⟩),.int .i64 n] w fun e w' => e = .returned (.agg (brow (nd σ n).key)) ∧ Adds w w':=by
 obtain ⟨ρ,F,h1,L,_⟩:=h
 exact RKey_ok h1 L GG n
theorem Look_ok (hA:At w s F σ) (hR:ROw w0 w b σ G) (GG:Good σ) (n:Int) :
 Calls Tryz.prog 70 #[.pointer (some ⟨s,0,none⟩),.pointer (some ⟨b,0,none⟩),.int .i64 n,.bool false] w fun e w' => e = .returned (.bool true) ∧ Adds w w':=by
 have iHas:=fun w1 (a:Adds w w1) => Has_ok (hA.adds a) n
 have rHas:=fun w1 (a:Adds w w1) => (hR.adds a).hasR GG n
 have iKind:=fun w1 (a:Adds w w1) => Kind_ok (hA.adds a) n
 have rKind:=fun w1 (a:Adds w w1) => (hR.adds a).kind GG n
 have iDepth:=fun w1 (a:Adds w w1) => Depth_ok (hA.adds a) n
 have rDepth:=fun w1 (a:Adds w w1) => (hR.adds a).depthR GG n
 have iSize:=fun w1 (a:Adds w w1) => Size_ok (hA.adds a) n
 have rSize:=fun w1 (a:Adds w w1) => (hR.adds a).sizeR GG n
 have iCount:=fun w1 (a:Adds w w1) => (show Calls Tryz.prog 117 #[.pointer (some ⟨s,0,none⟩),.int .i64 n] w1 (fun e w' => e = .returned (.int .i64 (σ.count n:Nat)) ∧ Adds w1 w') from (Count_ok (hA.adds a) n).mono fun e w' ⟨he,hw⟩ => ⟨he,hw ▸ Ch.refl _ _⟩)
 have rCount:=fun w1 (a:Adds w w1) => (hR.adds a).countR GG n
 have iHeld:=fun w1 (a:Adds w w1) => Held_ok (hA.adds a) n
 have rHeld:=fun w1 (a:Adds w w1) => (hR.adds a).heldR GG n
 have iRoot:=fun w1 (a:Adds w w1) => Root_ok (hA.adds a) n
 have rRoot:=fun w1 (a:Adds w w1) => (hR.adds a).root GG n
 have iKey:=fun w1 (a:Adds w w1) => Key_ok (hA.adds a) n
 have rKey:=fun w1 (a:Adds w w1) => (hR.adds a).keyR GG n
 have iSd:=fun w1 (a:Adds w w1) => Sides_ok (hA.adds a) n
 have rSd:=fun w1 (a:Adds w w1) => (hR.adds a).sides GG n
 have iVl:=fun w1 (a:Adds w w1) => Value_row (hA.adds a) n
 have rVl:=fun w1 (a:Adds w w1) => (hR.adds a).value GG n
 have hkl:(nd σ n).key.length = 32:=(hA.ok n).key
 have hneq:=neq_keys 31 Tryz.underlying31 (nd σ n).key (nd σ n).key hkl hkl
 rw [decide_eq_true rfl,Bool.not_true] at hneq
 have hvl:=(hA.ok n).val
 obtain ⟨hb,hhb⟩:∃ x,x = has σ n:=⟨_,rfl⟩
 rw [← hhb] at iHas rHas
 obtain ⟨kd,hkd⟩:∃ x,x = (nd σ n).kind:=⟨_,rfl⟩
 rw [← hkd] at iKind rKind
 obtain ⟨dp,hdp⟩:∃ x,x = depth σ n:=⟨_,rfl⟩
 rw [← hdp] at iDepth rDepth
 obtain ⟨sz,hsz⟩:∃ x,x = (nd σ n).size:=⟨_,rfl⟩
 rw [← hsz] at iSize rSize
 obtain ⟨ct,hct⟩:∃ x,x = ((σ.count n:Nat):Int):=⟨_,rfl⟩
 rw [← hct] at iCount rCount
 obtain ⟨hd,hhd⟩:∃ x,x = (nd σ n).held:=⟨_,rfl⟩
 rw [← hhd] at iHeld rHeld
 obtain ⟨rt,hrt⟩:∃ x,x = rootErr σ n:=⟨_,rfl⟩
 rw [← hrt] at iRoot rRoot
 obtain ⟨K,hK⟩:∃ x,x = brow (nd σ n).key:=⟨_,rfl⟩
 rw [← hK] at iKey rKey hneq
 obtain ⟨lf,hlf⟩:∃ x,x = (nd σ n).left:=⟨_,rfl⟩
 obtain ⟨rg,hrg⟩:∃ x,x = (nd σ n).right:=⟨_,rfl⟩
 rw [← hlf, ← hrg] at iSd rSd
 obtain ⟨bs,hbs⟩:∃ x,x = (nd σ n).value:=⟨_,rfl⟩
 rw [← hbs] at iVl rVl hvl
 have IHas:=Lib.hid iHas
 have RHas:=Lib.hid rHas
 have IKind:=Lib.hid iKind
 have RKind:=Lib.hid rKind
 have IDepth:=Lib.hid iDepth
 have RDepth:=Lib.hid rDepth
 have ISize:=Lib.hid iSize
 have RSize:=Lib.hid rSize
 have ICount:=Lib.hid iCount
 have RCount:=Lib.hid rCount
 have IHeld:=Lib.hid iHeld
 have RHeld:=Lib.hid rHeld
 have IRoot:=Lib.hid iRoot
 have RRoot:=Lib.hid rRoot
 have IKey:=Lib.hid iKey
 have RKey:=Lib.hid rKey
 have ISd:=Lib.hid iSd
 have RSd:=Lib.hid rSd
 have IVl:=Lib.hid iVl
 have RVl:=Lib.hid rVl
 have HVL:=Lib.hid hvl
 have A0:=Lib.hid (Ch.refl (fun _ => False) w)
 clear iHas rHas hhb iKind rKind hkd iDepth rDepth hdp iSize rSize hsz iCount rCount hct iHeld rHeld hhd iRoot rRoot hrt iKey rKey hK iSd rSd iVl rVl hkl hlf hrg hbs hvl hA hR GG
 go_enter Tryz.func70,Tryz.ntmps70
 go_wp2_with fail
 refine (IHas.out _ A0.out).mono ?_; rintro e w1 ⟨rfl,a⟩
 have A1:=Lib.hid (A0.out.trans a (fun _ => fEq))
 clear a
 go_wp2_with fail
 refine (RHas.out _ A1.out).mono ?_; rintro e w2 ⟨rfl,a⟩
 have A2:=Lib.hid (A1.out.trans a (fun _ => fEq))
 clear a
 go_wp2_with fail
 refine (IKind.out _ A2.out).mono ?_; rintro e w3 ⟨rfl,a⟩
 have A3:=Lib.hid (A2.out.trans a (fun _ => fEq))
 clear a
 go_wp2_with fail
 refine (RKind.out _ A3.out).mono ?_; rintro e w4 ⟨rfl,a⟩
 have A4:=Lib.hid (A3.out.trans a (fun _ => fEq))
 clear a
 go_wp2_with fail
 refine (IDepth.out _ A4.out).mono ?_; rintro e w5 ⟨rfl,a⟩
 have A5:=Lib.hid (A4.out.trans a (fun _ => fEq))
 clear a
 go_wp2_with fail
 refine (RDepth.out _ A5.out).mono ?_; rintro e w6 ⟨rfl,a⟩
 have A6:=Lib.hid (A5.out.trans a (fun _ => fEq))
 clear a
 go_wp2_with fail
 refine (ISize.out _ A6.out).mono ?_; rintro e w7 ⟨rfl,a⟩
 have A7:=Lib.hid (A6.out.trans a (fun _ => fEq))
 clear a
 go_wp2_with fail
 refine (RSize.out _ A7.out).mono ?_; rintro e w8 ⟨rfl,a⟩
 have A8:=Lib.hid (A7.out.trans a (fun _ => fEq))
 clear a
 go_wp2_with fail
 refine (ICount.out _ A8.out).mono ?_; rintro e w9 ⟨rfl,a⟩
 have A9:=Lib.hid (A8.out.trans a (fun _ => fEq))
 clear a
 go_wp2_with fail
 refine (RCount.out _ A9.out).mono ?_; rintro e w10 ⟨rfl,a⟩
 have A10:=Lib.hid (A9.out.trans a (fun _ => fEq))
 clear a
 go_wp2_with fail
 refine (IHeld.out _ A10.out).mono ?_; rintro e w11 ⟨rfl,a⟩
 have A11:=Lib.hid (A10.out.trans a (fun _ => fEq))
 clear a
 go_wp2_with fail
 refine (RHeld.out _ A11.out).mono ?_; rintro e w12 ⟨rfl,a⟩
 have A12:=Lib.hid (A11.out.trans a (fun _ => fEq))
 clear a
 go_wp2_with fail
 refine (IRoot.out _ A12.out).mono ?_; rintro e w13 ⟨rfl,a⟩
 have A13:=Lib.hid (A12.out.trans a (fun _ => fEq))
 clear a
 go_wp2_with fail
 refine (RRoot.out _ A13.out).mono ?_; rintro e w14 ⟨rfl,a⟩
 have A14:=Lib.hid (A13.out.trans a (fun _ => fEq))
 clear a
 go_wp2_with fail
 refine (IKey.out _ A14.out).mono ?_; rintro e w15 ⟨rfl,a⟩
 have A15:=Lib.hid (A14.out.trans a (fun _ => fEq))
 clear a
 go_wp2_with fail
 refine (RKey.out _ A15.out).mono ?_; rintro e w16 ⟨rfl,a⟩
 have A16:=Lib.hid (A15.out.trans a (fun _ => fEq))
 clear a
 go_wp2_with fail
 refine (ISd.out _ A16.out).mono ?_; rintro e w17 ⟨rfl,a⟩
 have A17:=Lib.hid (A16.out.trans a (fun _ => fEq))
 clear a
 go_wp2_with fail
 refine (RSd.out _ A17.out).mono ?_; rintro e w18 ⟨rfl,a⟩
 have A18:=Lib.hid (A17.out.trans a (fun _ => fEq))
 clear a
 go_wp2_with fail
 refine (IVl.out _ A18.out).mono ?_; rintro e wu ⟨u,rfl,hu,a⟩
 have AU:=Lib.hid (A18.out.trans a (fun _ => fEq))
 obtain ⟨uo,uc,rfl,_⟩:=hu.bytes.form
 have HU:=Lib.hid hu
 clear a hu
 go_wp2_with fail
 refine (IVl.out _ AU.out).mono ?_; rintro e wv ⟨v,rfl,hv,a⟩
 have AV:=(hIq (AU.out.trans a (fun _ => fEq)) a)
 obtain ⟨vo,vc,rfl,_⟩:=hv.bytes.form
 have HV:=Lib.hid hv
 clear a hv
 go_wp2_with fail
 refine (RVl.out _ AV.out.1).mono ?_; rintro e wr ⟨x,rfl,hx,_,a⟩
 obtain ⟨xo,xc,rfl,_⟩:=hx.form
 have AR:=(hIq (AV.out.1.trans a (fun _ => fEq)) (aIq a hx))
 clear a hx
 have hsb:=SameBytes_ok ((HU.out.bytes.keep AV.out.2 (fun _ _ h => h)).keep AR.out.2.1 (fun _ _ h => h)) AR.out.2.2
 rw [decide_eq_true rfl] at hsb
 have HSB:=Lib.hid hsb
 clear hsb
 go_wp2_with fail
 refine HSB.out.mono ?_; rintro e wq ⟨rfl,hwq⟩
 subst hwq
 go_wp2_with fail
 have aw:Adds w (wq.alloc (.cells #[.slice uo bs.length uc,.slice vo bs.length vc] 32)):=AR.out.1.alloc _
 have aqu:Adds wu (wq.alloc (.cells #[.slice uo bs.length uc,.slice vo bs.length vc] 32)):=(AV.out.2.trans AR.out.2.1 (fun _ => fEq)).alloc _
 have aqv:Adds wv (wq.alloc (.cells #[.slice uo bs.length uc,.slice vo bs.length vc] 32)):=AR.out.2.1.alloc _
 obtain ⟨au,hau⟩:=(HU.out.keep aqu (fun _ _ h => h)).whole
 obtain ⟨av,hav⟩:=(HV.out.keep aqv (fun _ _ h => h)).whole
 have lu:=fun k hk => HU.out.lt k hk
 have lv:=fun k hk => HV.out.lt k hk
 have zz:=(AV.out.2.trans AR.out.2.1 (fun _ => fEq)).size
 have zv:=AR.out.2.1.size
 have zu:=AU.out.size
 have hLs:LsAt (fun j => if j = 0 then .slice uo bs.length uc else .slice vo bs.length vc) (fun j => if j = 0 then au else av) wq.heap.size (wq.alloc (.cells #[.slice uo bs.length uc,.slice vo bs.length vc] 32)):=by
  refine ⟨fun j hj => ?_,heap_alloc_new _ _⟩
  have:j = 0 ∨ j = 1:=by omega
  rcases this with rfl | rfl
  · exact hau
  exact hav
 have hap:=Apart_ok hLs (fun i j k hi hj hij h1 h2 => by
  have hi':i = 0 ∨ i = 1:=by omega
  have hj':j = 0 ∨ j = 1:=by omega
  rcases hi' with rfl | rfl <;> rcases hj' with rfl | rfl
  · exact hij rfl
  · have:=lu k h1; have:=lv k h2; omega
  · have:=lv k h1; have:=lu k h2; omega
  · exact hij rfl) (fun j hj h1 => by
  have hj':j = 0 ∨ j = 1:=by omega
  rcases hj' with rfl | rfl
  · have:=lu _ h1; omega
  have:=lv _ h1; omega)
 have HAP:=Lib.hid hap
 have HLT:=(hIq lu (aIq lv (aIq zu aw)))
 clear hap hLs hau hav lu lv zz zv zu aw aqu aqv
 refine HAP.out.mono ?_; rintro e wp ⟨rfl,cp,bf',hL'⟩
 have ap:Adds w wp:=HLT.out.2.2.2.trans cp (fun k hk => by
  obtain ⟨j,hj,hk⟩:=hk
  have hj':j = 0 ∨ j = 1:=by omega
  have h3:=HLT.out.2.2.1
  rcases hj' with rfl | rfl
  · have:=(HLT.out.1 k hk).1
    have h4:=A18.out.size
    exact .inr (by omega)
  have:=(HLT.out.2.1 k hk).1
  exact .inr (by omega))
 have hov:=OverAll_ok (hL'.1 0 (by omega))
 have HOV:=Lib.hid hov
 have AP:=Lib.hid ap
 clear hov hL' cp ap
 go_wp2_with fail
 refine HOV.out.mono ?_; rintro e wo ⟨⟨uu,rfl⟩,co,_⟩
 have AO:=Lib.hid (AP.out.trans co (fun k hk => .inr (by
  have:=(HLT.out.1 k hk).1
  have h4:=A18.out.size
  omega)))
 clear co
 go_wp2_with fail
 refine (IVl.out _ AO.out).mono ?_; rintro e wx ⟨y,rfl,hy,a⟩
 obtain ⟨yo,yc,rfl,_⟩:=hy.bytes.form
 have AX:=(hIq (AO.out.trans a (fun _ => fEq)) hy.bytes)
 clear a hy
 go_wp2_with fail
 refine (RVl.out _ AX.out.1).mono ?_; rintro e wz ⟨z,rfl,hz,_,a⟩
 obtain ⟨zo,zc,rfl,_⟩:=hz.form
 have hsb2:=SameBytes_ok (AX.out.2.keep a (fun _ _ h => h)) hz
 rw [decide_eq_true rfl] at hsb2
 have AZ:=Lib.hid (AX.out.1.trans a (fun _ => fEq))
 have HSB2:=Lib.hid hsb2
 clear a hz hsb2
 go_wp2_with fail
 refine HSB2.out.mono ?_; rintro e wy ⟨rfl,hwy⟩
 subst hwy
 go_wp2
 go_ret
 exact ⟨rfl,AZ.out⟩
end
end Go.Proofs.YtmeglndnkdgkoaaGreat.Store

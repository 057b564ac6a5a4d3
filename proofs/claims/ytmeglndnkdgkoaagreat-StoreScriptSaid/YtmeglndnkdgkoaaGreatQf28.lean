/- Laws of the layers below. -/
import Derived.Test.YtmeglndnkdgkoaaGreatQf27
import Derived.Test.YtmeglndnkdgkoaaGreatQf24
set_option maxHeartbeats 3200000
set_option maxRecDepth 100000
set_option linter.unusedVariables false
namespace Go.Proofs.YtmeglndnkdgkoaaGreat.Store
open Go.RowKit Go.Proofs.YtmeglndnkdgkoaaGreat.ShaW Go.Proofs.YtmeglndnkdgkoaaGreat.Path Go.Proofs.YtmeglndnkdgkoaaGreat.Law9
def AllB (w:World) (x:Value) (all:List UInt8):Prop :=
 (x = .slice none 0 0 ∧ all = []) ∨ ∃ g n,x = .slice (some ⟨g,0,none⟩) n all.length ∧ n ≤ all.length ∧ all.length ≤ maxLen ∧ w.heap[g]? = some (.cells (brow all) 5 (0,0))
def wholeV:Value → Value
 | .slice (some a) _ c => .slice (some a) c c
 | _ => .slice none 0 0
section
variable {w w' : World} {x : Value} {all : List UInt8}
theorem BytesRow.whole {n0:Nat} {v:Value} {bs:List UInt8} (h:BytesRow w n0 v bs):∃ all,AllB w v all:=by
 rcases h with ⟨h1,h2⟩ | ⟨g,c,all,h1,h2,h3,h4,h5,h6,h7⟩
 · exact ⟨[],.inl ⟨h1,rfl⟩⟩
 subst h4
 exact ⟨all,.inr ⟨g,_,h1,h7,h6,h3⟩⟩
theorem AllB.keep (h:AllB w x all) {C:Nat → Prop} (c:Ch C w w') (hd:∀ k,x.ownBlock = some k → ¬ C k):AllB w' x all:=by
 rcases h with h | ⟨g,n,rfl,h1,h2,h3⟩
 · exact .inl h
 exact .inr ⟨g,n,rfl,h1,h2,c.row h3 (hd g rfl)⟩
theorem AllB.form (h:AllB w x all):∃ ao n,x = .slice ao n all.length ∧ (all.length:Int) ≤ 9223372036854775807:=by
 rcases h with ⟨rfl,rfl⟩ | ⟨g,n,rfl,h1,h2,h3⟩
 · exact ⟨_,_,rfl,by decide⟩
 exact ⟨_,_,rfl,by unfold maxLen at h2; omega⟩
theorem AllB.cut (h:AllB w x all) (w1:World):(Instr.sliceAt 32 x none (some (.int .i64 (all.length:Int))) none).run Tryz.prog w1 = .ok (wholeV x) w1:=by
 rcases h with ⟨rfl,rfl⟩ | ⟨g,n,rfl,h1,h2,h3⟩
 · kernel_rfl
 exact slice_whole g n all.length h1 (by unfold maxLen at h2; omega) w1
theorem AllB.conv (h:AllB w x all):(convert 32 9 (wholeV x)).run Tryz.prog w = .ok (.string (bstr all)) w:=by
 rcases h with ⟨rfl,rfl⟩ | ⟨g,n,rfl,h1,h2,h3⟩
 · exact conv_bytes (Bytes.nil w)
 exact conv_bytes (Bytes.row (w:=w) h3 rfl h2)
theorem OverAll_ok (h:AllB w x all) :
 Calls Tryz.prog 64 #[x] w fun e w' => (∃ u,e = .returned u) ∧ Ch (fun k => x.ownBlock = some k) w w' ∧ ∃ all',all'.length = all.length ∧ AllB w' x all':=by
 rcases h with ⟨rfl,rfl⟩ | ⟨g,n,rfl,h1,h2,h3⟩
 · have hs:∀ w0:World,(Instr.sliceAt 32 (.slice none 0 0) none (some (.int .i64 0)) none).run Tryz.prog w0 = .ok (.slice none 0 0) w0:=fun w0 => by kernel_rfl
   go_enter Tryz.func64,Tryz.ntmps64
   go_wp2
   go_loopw [3] (fun i wr => i = .int .i64 0 ∧ wr = w) (fun i _ => 0)
   case atStart => exact ⟨rfl,rfl⟩
   obtain ⟨rfl,rfl⟩:=hrel
   go_wp2
   go_end0
   exact ⟨⟨_,rfl⟩,Ch.refl _ _,[],rfl,.inl ⟨rfl,rfl⟩⟩
 obtain ⟨c,hc⟩:∃ c,c = all.length:=⟨_,rfl⟩
 rw [← hc] at h1 h2 ⊢
 have hs:=fun w1 => slice_whole g n c h1 (by unfold maxLen at h2; omega) w1
 have hcm:(c:Int) ≤ 9223372036854775807:=by unfold maxLen at h2; omega
 have HAll:=(hIq h3 (aIq hc.symm (aIq h1 h2)))
 clear h1 h2 h3 hc
 go_enter Tryz.func64,Tryz.ntmps64
 go_wp2
 go_loopw [3] (fun i wr => ∃ (k:Nat) (l:List UInt8),k ≤ c ∧ i = .int .i64 k ∧ wr.heap[g]? = some (.cells (brow l) 5 (0,0)) ∧ l.length = c ∧ Ch (fun j => j = g) w wr) (fun i _ => c - (intOf i).toNat)
 case atStart => exact ⟨0,all,Nat.zero_le _,rfl,HAll.out.1,HAll.out.2.1,Ch.refl _ _⟩
 obtain ⟨k,l,hk,rfl,hrow,hl,hch⟩:=hrel
 by_cases hlt:k < c
 · obtain ⟨x,hx⟩:∃ x,l[k]? = some x:=⟨_,List.getElem?_eq_getElem (by omega)⟩
   have c1:wr.cell? ⟨g,k,none⟩ = some (bv x):=row_cell hrow (by unfold brow; rw [List.getElem?_toArray,List.getElem?_map,hx]; rfl)
   have f1:=row_free hrow k
   have hb:=over_bits x
   have hkc:(k:Int) < (c:Int):=by omega
   have hset:=row_set_same hrow k (bv (over x))
   have hbr:(brow l).setIfInBounds k (bv (over x)) = brow (l.set k (over x)):=by
    apply Array.ext'
    simp [brow,List.map_set]
   rw [hbr] at hset
   have HS:=(hIq hset (aIq hl hch))
   generalize over x = y at hb HS
   clear hrow hx hset hbr hl hch hk
   go_wp2
   go_roundw
   case rel => exact ⟨k + 1,_,by omega,by first | rfl | simp,HS.out.1,by rw [List.length_set]; exact HS.out.2.1,HS.out.2.2.setCell (p:=⟨g,k,none⟩) (.inl rfl) _⟩
   simp [intOf]; omega
 obtain rfl:k = c:=by omega
 have HC:=(hIq hch (aIq hrow hl))
 clear hrow hl hch hk hlt
 go_wp2
 go_end0
 refine ⟨⟨_,rfl⟩,HC.out.1.mono (fun j _ hj => by rw [hj]; rfl),l,HC.out.2.2,.inr ⟨g,n,by rw [HC.out.2.2],by rw [HC.out.2.2]; exact HAll.out.2.2.1,by rw [HC.out.2.2]; exact HAll.out.2.2.2,HC.out.2.1⟩⟩
def LsAt (ls:Nat → Value) (bf:Nat → List UInt8) (gl:Nat) (wz:World):Prop:=(∀ j,j < 2 → AllB wz (ls j) (bf j)) ∧ wz.heap[gl]? = some (.cells #[ls 0,ls 1] 32 (0,0))
theorem LsAt.keep {ls:Nat → Value} {bf:Nat → List UInt8} {gl:Nat} (h:LsAt ls bf gl w) {C:Nat → Prop} (c:Ch C w w') (hd:∀ j k,j < 2 → (ls j).ownBlock = some k → ¬ C k) (hg:¬ C gl):LsAt ls bf gl w' :=
 ⟨fun j hj => (h.1 j hj).keep c (fun k hk => hd j k hj hk),c.row h.2 hg⟩
theorem LsAt.adds {ls:Nat → Value} {bf:Nat → List UInt8} {gl:Nat} (h:LsAt ls bf gl w) (c:Adds w w'):LsAt ls bf gl w':=h.keep c (fun _ _ _ _ h => h) id
theorem two_get (ls:Nat → Value) {j:Nat} (hj:j < 2):(#[ls 0,ls 1]:Array Value)[j]? = some (ls j):=by
 have:j = 0 ∨ j = 1:=by omega
 rcases this with rfl | rfl <;> rfl
theorem Apart_ok {ls:Nat → Value} {bf:Nat → List UInt8} {gl:Nat} (h:LsAt ls bf gl w) (hd:∀ i j k,i < 2 → j < 2 → i ≠ j → (ls i).ownBlock = some k → (ls j).ownBlock ≠ some k) (hgl:∀ j,j < 2 → (ls j).ownBlock ≠ some gl) :
 Calls Tryz.prog 37 #[.slice (some ⟨gl,0,none⟩) 2 2] w fun e w' => e = .returned (.bool true) ∧ Ch (fun k => ∃ j,j < 2 ∧ (ls j).ownBlock = some k) w w' ∧ ∃ bf',LsAt ls bf' gl w':=by
 have hmk:∀ w:World,(Instr.makeSlice 170 (.int .i64 2) (.int .i64 2)).run Tryz.prog w = .ok (.slice (some ⟨w.heap.size,0,none⟩) 2 2) (w.alloc (.cells (madeCells #[.string ByteArray.empty] 2) 9)):=fun w =>
  run_make_row' 170 9 (.string ByteArray.empty) 16 Tryz.underlying170 (by kernel_rfl) rfl .i64 .i64 2 (by omega) (by omega) w
 obtain ⟨MC,hMC⟩:∃ MC,MC = madeCells #[Value.string ByteArray.empty] 2:=⟨_,rfl⟩
 have hMs:MC.size = 2:=by rw [hMC]; exact size_madeCells _ _
 rw [← hMC] at hmk
 have HM:=Lib.hid hMs
 have HH:=Lib.hid h
 have HD:=(hIq hd hgl)
 have lgl:=row_lt h.2
 clear hMC hMs h hd hgl
 go_enter Tryz.func37,Tryz.ntmps37
 go_wp2
 go_loopg [3,4,5,6] 2 (fun g s3 s4 s5 s6 wr => ∃ (i:Nat) (af:Nat → List UInt8),i ≤ 2 ∧ g = 2 - i ∧ s3 = .int .i64 i ∧ LsAt ls af gl wr ∧ Ch (fun k => ∃ j,j < 2 ∧ (ls j).ownBlock = some k) w wr)
 case atStart => exact ⟨0,bf,Nat.zero_le _,rfl,rfl,HH.out,Ch.refl _ _⟩
 obtain ⟨i,af,hi,rfl,rfl,hL,hC⟩:=hrel
 have HL:=(hIq hL hC)
 clear hL hC
 by_cases hlt:i < 2
 · have hi2:(i:Int) < 2:=by omega
   go_wp2
   obtain ⟨w1,hw1⟩:∃ w1,w1 = wr.alloc (.cells MC 9):=⟨_,rfl⟩
   try rw [← hw1]
   have a1:Adds wr w1:=by rw [hw1]; exact (Ch.refl _ _).alloc _
   have r1:w1.heap[wr.heap.size]? = some (.cells MC 9 (0,0)):=by rw [hw1]; exact heap_alloc_new _ _
   have H1:=(hIq a1 r1)
   clear a1 r1 hw1
   obtain ⟨gw,hgw⟩:∃ gw,gw = wr.heap.size:=⟨_,rfl⟩
   rw [← hgw] at H1 ⊢
   have hne:gw ≠ gl ∧ ∀ j k,j < 2 → (ls j).ownBlock = some k → k < gw:=by
    rw [hgw]
    refine ⟨fun e => by have:=row_lt HL.out.1.2; omega,fun j k hj hk => ?_⟩
    rcases HL.out.1.1 j hj with ⟨e,_⟩ | ⟨g,n,e,_,_,h3⟩
    · rw [e] at hk; cases hk
    rw [e] at hk; cases hk; exact row_lt h3
   have hwg:w.heap.size ≤ gw:=by rw [hgw]; exact HL.out.2.size
   have HNE:=(hIq hne hwg)
   have HL1:=(hIq (HL.out.1.adds H1.out.1) (HL.out.2.trans H1.out.1 (fun _ => fEq)))
   clear hgw hne hwg
   go_loopg [5] 2 (fun g s5 wx => ∃ (k:Nat) (SS:Array Value),k ≤ 2 ∧ g = 2 - k ∧ s5 = .int .i64 k ∧ SS.size = 2 ∧ (∀ j,j < k → SS[j]? = some (.string (bstr (af j)))) ∧ wx.heap[gw]? = some (.cells SS 9 (0,0)) ∧ Ch (fun k => k = gw) w1 wx)
   case atStart => exact ⟨0,MC,Nat.zero_le _,rfl,rfl,HM.out,fun j hj => absurd hj (Nat.not_lt_zero j),H1.out.2,Ch.refl _ _⟩
   obtain ⟨k,SS,hk,rfl,rfl,hsz,hin,hrow,hch⟩:=hrel
   have hLx:LsAt ls af gl wr:=HL1.out.1.keep hch (fun j k hj hk e => by have:=HNE.out.1.2 j k hj hk; omega) (fun e => HNE.out.1.1 e.symm)
   have HX:=(hIq hLx (aIq hch (aIq hsz (aIq hin hrow))))
   clear hLx hch hsz hin hrow
   by_cases hkl:k < 2
   · have hk2:(k:Int) < 2:=by omega
     obtain ⟨ao,n,hform,hcap⟩:=(HX.out.1.1 k hkl).form
     have hcut:=fun w1 => (HX.out.1.1 k hkl).cut w1
     have hconv:=fun wz (hz:LsAt ls af gl wz) => (hz.1 k hkl).conv
     have hget:∀ wz,LsAt ls af gl wz → wz.cell? ⟨gl,k,none⟩ = some (ls k):=fun wz hz => row_cell hz.2 (two_get ls hkl)
     obtain ⟨V,hV⟩:∃ V,V = wholeV (ls k):=⟨_,rfl⟩
     rw [← hV] at hcut hconv
     obtain ⟨T,hT⟩:∃ T,T = bstr (af k):=⟨_,rfl⟩
     rw [← hT] at hconv
     rw [hform] at hget hcut
     obtain ⟨cl,hcl⟩:∃ cl,cl = (af k).length:=⟨_,rfl⟩
     rw [← hcl] at hget hcut hcap
     obtain ⟨old,hold⟩:∃ old,SS[k]? = some old:=⟨_,Array.getElem?_eq_getElem (by rw [HX.out.2.2.1]; exact hkl)⟩
     have HGT:=Lib.hid hget
     have HCT:=Lib.hid hcut
     have HCV:=Lib.hid hconv
     have HT:=(hIq hT hold)
     clear hcl hT hV hform hget hcut hconv hold
     go_wp2
     refine wp_region_plan (fun wz => LsAt ls af gl wz) 13 [(0,false),(1,false),(2,false),(3,false),(4,false),(5,false),(6,false),(7,false),(8,false),(9,false),(10,false),(11,false),(12,false)] (by kernel_rfl) (by kernel_rfl) ?_ ?_
     · exact HX.out.1.adds (Ch.refl _ _).drew
     iterate 5
      refine plan_look rfl rfl (fun w0 hS => (by clear hS; go_simp; try rfl)) ?_
      simp only [Act.put,nAq,nBq,nCq]
     refine plan_look (v:=.slice ao n cl) rfl rfl (fun w0 hS => (by have c1:=HGT.out w0 hS; clear hS; go_simp; try rfl)) ?_
     simp only [Act.put,nAq,nBq,nCq]
     iterate 3
      refine plan_look rfl rfl (fun w0 hS => (by clear hS; go_simp; try rfl)) ?_
      simp only [Act.put,nAq,nBq,nCq]
     refine plan_look (v:=.slice ao n cl) rfl rfl (fun w0 hS => (by have c1:=HGT.out w0 hS; clear hS; go_simp; try rfl)) ?_
     simp only [Act.put,nAq,nBq,nCq]
     refine plan_look (v:=.int .i64 (cl:Int)) rfl rfl (fun w0 hS => (by clear hS; go_simp; try rfl)) ?_
     simp only [Act.put,nAq,nBq,nCq]
     refine plan_look (v:=V) rfl rfl (fun w0 hS => (by have q:=HCT.out w0; clear hS; go_simp; try rfl)) ?_
     simp only [Act.put,nAq,nBq,nCq]
     refine plan_convert rfl rfl 32 9 (.tmp 33) (.string T) rfl V rfl (fun w0 hS => HCV.out w0 hS) ?_
     simp only [Act.put,nAq,nBq,nCq]
     refine plan_end ?_; simp only [List.drop_succ_cons,List.drop_zero]
     have c1:=row_cell (row_drew HX.out.2.2.2.2) HT.out.2
     have f1:=row_free (row_drew HX.out.2.2.2.2) k
     have l1:=row_lt (row_drew HX.out.2.2.2.2)
     go_wp2
     refine NoPanic.normal ?_
     go_wp2
     go_roundg (2 - (k + 1))
     case measure => omega
     refine ⟨k + 1,SS.setIfInBounds k (.string T),by omega,rfl,by go_num,by rw [Array.size_setIfInBounds]; exact HX.out.2.2.1,fun j hj => ?_,row_set_same (row_drew HX.out.2.2.2.2) k _,(HX.out.2.1.drew).setCell (p:=⟨gw,k,none⟩) (.inl rfl) _⟩
     by_cases e:j = k
     · subst e
       rw [Array.getElem?_setIfInBounds_self_of_lt (by rw [HX.out.2.2.1]; exact hkl),HT.out.1]
     rw [Array.getElem?_setIfInBounds_ne (Ne.symm e)]
     exact HX.out.2.2.2.1 j (by omega)
   obtain rfl:k = 2:=by omega
   have hk2:¬ (2:Int) < 2:=by omega
   have HIN:=Lib.hid HX.out.2.2.2.1
   have hgi:=row_cell HX.out.1.2 (two_get ls hlt)
   obtain ⟨ai,ni,hfi,hci⟩:=(HX.out.1.1 i hlt).form
   have hov:=OverAll_ok (HX.out.1.1 i hlt)
   have HFI:=Lib.hid hfi
   rw [hfi] at hgi hov
   obtain ⟨ci,hci'⟩:∃ ci,ci = (af i).length:=⟨_,rfl⟩
   rw [← hci'] at hgi hov hci HFI
   have HOV:=Lib.hid hov
   clear hov hci' hfi
   go_wp2_with fail
   refine HOV.out.mono ?_; rintro e w3 ⟨⟨u3,rfl⟩,c3,all3,hl3,hA3⟩
   have hw13:Ch (fun k => ∃ j,j < 2 ∧ (ls j).ownBlock = some k) w w3:=by
    refine (HL1.out.2.trans HX.out.2.1 (fun k e => ?_)).trans c3 (fun k hk => .inl ⟨i,hlt,by rw [HFI.out]; exact hk⟩)
    exact .inr (by rw [e]; exact HNE.out.2)
   have hL3:LsAt ls (fun j => if j = i then all3 else af j) gl w3:=by
    refine ⟨fun j hj => ?_,c3.row HX.out.1.2 (fun e => HD.out.2 i hlt (by rw [HFI.out]; exact e))⟩
    by_cases e:j = i
    · subst e
      simp only [if_true]
      rw [HFI.out]; exact hA3
    simp only [if_neg e]
    exact (HX.out.1.1 j hj).keep c3 (fun k hk hk2 => HD.out.1 j i k hj hlt e hk (by rw [HFI.out]; exact hk2))
   have hr3:=c3.row HX.out.2.2.2.2 (fun e => by have:=HNE.out.1.2 i gw hlt (by rw [HFI.out]; exact e); omega)
   have H3:=(hIq hL3 (aIq hw13 hr3))
   clear c3 hA3 hl3 hw13 hL3 hr3 hgi
   go_wp2
   go_loopg [6] 2 (fun g s6 wx => ∃ k:Nat,k ≤ 2 ∧ g = 2 - k ∧ s6 = .int .i64 k ∧ Adds w3 wx)
   case atStart => exact ⟨0,Nat.zero_le _,rfl,rfl,Ch.refl _ _⟩
   obtain ⟨k,hk,rfl,rfl,hA⟩:=hrel
   have HA:=Lib.hid hA
   clear hA
   by_cases hkl:k < 2
   · have hk2:(k:Int) < 2:=by omega
     by_cases hki:k = i
     · have hn1:((k:Int) != (i:Int)) = false:=by simpa using (show (k:Int) = (i:Int) by omega)
       have hn2:¬ ¬ (k:Int) = (i:Int):=by omega
       have hn3:decide ((k:Int) = (i:Int)) = true:=decide_eq_true (by omega)
       have hn4:((k:Int) == (i:Int)) = true:=by simpa using (show (k:Int) = (i:Int) by omega)
       go_wp2
       refine wp_region_plan (fun _ => True) 21 [(0,false),(1,false),(2,false),(3,false),(4,false),(5,false),(6,false),(7,false),(8,false),(9,false),(10,false),(11,false),(12,false),(13,false),(14,false),(15,false),(16,false),(17,false),(18,false),(19,false),(20,false)] (by kernel_rfl) (by kernel_rfl) ?_ ?_
       · trivial
       iterate 2
        refine plan_look rfl rfl (fun w0 hS => (by clear hS; go_simp; try rfl)) ?_
        simp only [Act.put,nAq,nBq,nCq]
       iterate 2
        refine plan_look (v:=.bool false) rfl rfl (fun w0 hS => (by clear hS; go_simp; try rfl)) ?_
        simp only [Act.put,nAq,nBq,nCq]
       iterate 16
        refine plan_skip rfl (by rfl) ?_
        simp only [Act.put,nAq,nBq,nCq]
       refine plan_look (v:=.bool false) rfl rfl (fun w0 hS => (by clear hS; go_simp; try rfl)) ?_
       simp only [Act.put,nAq,nBq,nCq]
       refine plan_end ?_; simp only [List.drop_succ_cons,List.drop_zero]
       go_wp2
       refine NoPanic.normal ?_
       go_wp2
       go_roundg (2 - (k + 1))
       case measure => omega
       exact ⟨k + 1,by omega,rfl,by go_num,HA.out.drew⟩
     have hn1:((k:Int) != (i:Int)) = true:=by simpa using (show ¬ (k:Int) = (i:Int) by omega)
     have hn2:¬ (k:Int) = (i:Int):=by omega
     have hn4:((k:Int) == (i:Int)) = false:=by simpa using (show ¬ (k:Int) = (i:Int) by omega)
     have hbk:∀ wz,LsAt ls (fun j => if j = i then all3 else af j) gl wz → AllB wz (ls k) (af k):=fun wz hz => by
      have:=hz.1 k hkl
      simp only [if_neg hki] at this
      exact this
     obtain ⟨ak,nk,hfk,hck⟩:=(hbk _ H3.out.1).form
     have hcut:=fun w1 => (hbk _ H3.out.1).cut w1
     have hconv:=fun wz (hz:LsAt ls (fun j => if j = i then all3 else af j) gl wz) => (hbk wz hz).conv
     have hget:∀ wz,LsAt ls (fun j => if j = i then all3 else af j) gl wz → wz.cell? ⟨gl,k,none⟩ = some (ls k):=fun wz hz => row_cell hz.2 (two_get ls hkl)
     obtain ⟨V,hV⟩:∃ V,V = wholeV (ls k):=⟨_,rfl⟩
     rw [← hV] at hcut hconv
     have hin:=HIN.out k hkl
     obtain ⟨T,hT⟩:∃ T,T = bstr (af k):=⟨_,rfl⟩
     rw [← hT] at hconv hin
     rw [hfk] at hget hcut
     obtain ⟨cl,hcl⟩:∃ cl,cl = (af k).length:=⟨_,rfl⟩
     rw [← hcl] at hget hcut hck
     have HGT:=Lib.hid hget
     have HCT:=Lib.hid hcut
     have HCV:=Lib.hid hconv
     have HINK:=Lib.hid hin
     clear hcl hT hV hfk hget hcut hconv hin hbk
     go_wp2
     refine wp_region_plan (fun wz => LsAt ls (fun j => if j = i then all3 else af j) gl wz ∧ wz.heap[gw]? = some (.cells SS 9 (0,0))) 21 [(0,false),(1,false),(2,false),(3,false),(4,false),(5,false),(6,false),(7,false),(8,false),(9,false),(10,false),(11,false),(12,false),(13,false),(14,false),(15,false),(16,false),(17,false),(18,false),(19,false),(20,false)] (by kernel_rfl) (by kernel_rfl) ?_ ?_
     · exact ⟨(H3.out.1.adds HA.out).adds (Ch.refl _ _).drew,row_drew (HA.out.row H3.out.2.2 id)⟩
     iterate 2
      refine plan_look rfl rfl (fun w0 hS => (by clear hS; go_simp; try rfl)) ?_
      simp only [Act.put,nAq,nBq,nCq]
     iterate 2
      refine plan_look (v:=.bool true) rfl rfl (fun w0 hS => (by clear hS; go_simp; try rfl)) ?_
      simp only [Act.put,nAq,nBq,nCq]
     iterate 3
      refine plan_look rfl rfl (fun w0 hS => (by clear hS; go_simp; try rfl)) ?_
      simp only [Act.put,nAq,nBq,nCq]
     refine plan_look (v:=.slice ak nk cl) rfl rfl (fun w0 hS => (by have c1:=HGT.out w0 hS.1; clear hS; go_simp; try rfl)) ?_
     simp only [Act.put,nAq,nBq,nCq]
     iterate 3
      refine plan_look rfl rfl (fun w0 hS => (by clear hS; go_simp; try rfl)) ?_
      simp only [Act.put,nAq,nBq,nCq]
     refine plan_look (v:=.slice ak nk cl) rfl rfl (fun w0 hS => (by have c1:=HGT.out w0 hS.1; clear hS; go_simp; try rfl)) ?_
     simp only [Act.put,nAq,nBq,nCq]
     refine plan_look (v:=.int .i64 (cl:Int)) rfl rfl (fun w0 hS => (by clear hS; go_simp; try rfl)) ?_
     simp only [Act.put,nAq,nBq,nCq]
     refine plan_look (v:=V) rfl rfl (fun w0 hS => (by have q:=HCT.out w0; clear hS; go_simp; try rfl)) ?_
     simp only [Act.put,nAq,nBq,nCq]
     refine plan_convert rfl rfl 32 9 (.tmp 60) (.string T) rfl V rfl (fun w0 hS => HCV.out w0 hS.1) ?_
     simp only [Act.put,nAq,nBq,nCq]
     iterate 3
      refine plan_look rfl rfl (fun w0 hS => (by clear hS; go_simp; try rfl)) ?_
      simp only [Act.put,nAq,nBq,nCq]
     refine plan_look (v:=.string T) rfl rfl (fun w0 hS => (by have c1:=row_cell hS.2 HINK.out; clear hS; go_simp; try rfl)) ?_
     simp only [Act.put,nAq,nBq,nCq]
     refine plan_look (v:=.bool false) rfl rfl (fun w0 hS => (by clear hS; go_simp; try rfl)) ?_
     simp only [Act.put,nAq,nBq,nCq]
     refine plan_look (v:=.bool false) rfl rfl (fun w0 hS => (by clear hS; go_simp; try rfl)) ?_
     simp only [Act.put,nAq,nBq,nCq]
     refine plan_end ?_; simp only [List.drop_succ_cons,List.drop_zero]
     go_wp2
     refine NoPanic.normal ?_
     go_wp2
     go_roundg (2 - (k + 1))
     case measure => omega
     exact ⟨k + 1,by omega,rfl,by go_num,HA.out.drew⟩
   obtain rfl:k = 2:=by omega
   have hk2:¬ (2:Int) < 2:=by omega
   have hL4:=H3.out.1.adds HA.out
   have hg4:=row_cell hL4.2 (two_get ls hlt)
   have hov:=OverAll_ok (hL4.1 i hlt)
   rw [HFI.out] at hg4 hov
   have H4:=(hIq hL4 (H3.out.2.1.trans HA.out (fun _ => fEq)))
   have HOV2:=Lib.hid hov
   clear hov hL4
   go_wp2_with fail
   refine HOV2.out.mono ?_; rintro e w5 ⟨⟨u5,rfl⟩,c5,all5,hl5,hA5⟩
   have hL5:LsAt ls (fun j => if j = i then all5 else (if j = i then all3 else af j)) gl w5:=by
    refine ⟨fun j hj => ?_,c5.row H4.out.1.2 (fun e => HD.out.2 i hlt (by rw [HFI.out]; exact e))⟩
    by_cases e:j = i
    · subst e
      simp only [if_true]
      rw [HFI.out]; exact hA5
    simp only [if_neg e]
    have:=H4.out.1.1 j hj
    simp only [if_neg e] at this
    exact this.keep c5 (fun k hk hk2 => HD.out.1 j i k hj hlt e hk (by rw [HFI.out]; exact hk2))
   have H5:=(hIq hL5 (H4.out.2.trans c5 (fun k hk => .inl ⟨i,hlt,by rw [HFI.out]; exact hk⟩)))
   clear hL5 c5 hA5 hl5 hg4
   go_wp2
   go_roundg (2 - (i + 1))
   case measure => omega
   exact ⟨i + 1,_,by omega,rfl,by go_num,H5.out.1,H5.out.2⟩
 obtain rfl:i = 2:=by omega
 have hi2:¬ (2:Int) < 2:=by omega
 go_wp2
 go_ret
 exact ⟨rfl,HL.out.2,af,HL.out.1⟩
end
section
variable {w0 w w' : World} {s b : Nat} {F G : Nat → Prop} {σ : SlabSt Nd}
theorem depth_is (GG:Good σ) (n:Int):(if (nd σ n).kind = 2 then (nd σ n).depth else -1) = depth σ n:=by
 unfold depth
 cases hs:σ.get? n with
 | none => rw [nd_none hs,has_none hs]; rfl
 | some x =>
  rw [nd_some hs,has_some hs]
  by_cases h2:x.1.kind = 2
  · rw [if_pos h2]; rfl
  rw [if_neg h2]
  have:=(GG.fit.leaf (sk_some hs) h2).2.depth
  have e:x.1.depth = -1:=this
  rw [e]; rfl
theorem ROw.hasR (h:ROw w0 w b σ G) (GG:Good σ) (n:Int):Calls Tryz.prog 137 #[.pointer (some ⟨b,0,none⟩),.int .i64 n] w fun e w' => e = .returned (.bool (has σ n)) ∧ Adds w w':=by
 obtain ⟨ρ,F,h1,L,_⟩:=h
 exact (RHas_ok h1 n).mono fun e w' ⟨he,hw⟩ => ⟨by rw [he,L.has GG],hw ▸ Ch.refl _ _⟩
theorem ROw.depthR (h:ROw w0 w b σ G) (GG:Good σ) (n:Int):Calls Tryz.prog 148 #[.pointer (some ⟨b,0,none⟩),.int .i64 n] w fun e w' => e = .returned (.int .i64 (depth σ n)) ∧ Adds w w':=by
 obtain ⟨ρ,F,h1,L,_⟩:=h
 refine (RDepth_ok h1 n).mono fun e w' ⟨he,a⟩ => ⟨?_,a⟩
 rw [he, ← depth_is GG n, ← L.depth GG n]
 rfl
theorem ROw.sizeR (h:ROw w0 w b σ G) (GG:Good σ) (n:Int):Calls Tryz.prog 149 #[.pointer (some ⟨b,0,none⟩),.int .i64 n] w fun e w' => e = .returned (.int .i64 (nd σ n).size) ∧ Adds w w':=by
 obtain ⟨ρ,F,h1,L,_⟩:=h
 exact RSize_ok h1 L GG n
theorem ROw.countR (h:ROw w0 w b σ G) (GG:Good σ) (n:Int):Calls Tryz.prog 119 #[.pointer (some ⟨b,0,none⟩),.int .i64 n] w fun e w' => e = .returned (.int .i64 (σ.count n:Nat)) ∧ Adds w w':=by
 obtain ⟨ρ,F,h1,L,_⟩:=h
 exact (RCount_ok h1 n).mono fun e w' ⟨he,a⟩ => ⟨by rw [he,L.count GG],a⟩
theorem ROw.keyR (h:ROw w0 w b σ G) (GG:Good σ) (n:Int):Calls Tryz.prog 153 #[.pointer (some ⟨b,0,none⟩),.int .i64 n] w fun e w' => e = .returned (.agg (brow (nd σ n).key)) ∧ Adds w w':=by
 obtain ⟨ρ,F,h1,L,_⟩:=h
 exact RKey_ok h1 L GG n
end
end Go.Proofs.YtmeglndnkdgkoaaGreat.Store
namespace Go.Proofs.YtmeglndnkdgkoaaGreat.Store
open Go.RowKit Go.Sort Go.Proofs.YtmeglndnkdgkoaaGreat.ShaW Go.Proofs.YtmeglndnkdgkoaaGreat.Path Go.Proofs.YtmeglndnkdgkoaaGreat.Law9
section
variable {w w' : World} {b : Nat} {F : Nat → Prop} {ρ : Rs} {σ : SlabSt Nd}
theorem rep_deep (G:Good σ) {n:Int} {s:Nd × Nat} (hs:σ.get? n = some s):∃ (d:Nat) (t:Tr),Rep (sk σ) n d t ∧ d ≤ 255 ∧ (depth σ n = (d:Int) ∨ (depth σ n = -1 ∧ d = 0)):=by
 have hdi:=depth_is G n
 rw [nd_some hs] at hdi
 by_cases h2:s.1.kind = 2
 · rw [if_pos h2] at hdi
   have hi:=G.fit.inner (sk_some hs) h2
   have h0:0 ≤ s.1.depth:=hi.d0
   have h1:s.1.depth ≤ 255:=hi.d1
   obtain ⟨d,hd⟩:∃ d:Nat,s.1.depth = (d:Int):=⟨s.1.depth.toNat,by omega⟩
   obtain ⟨t,ht⟩:=Rep.ex G.fit (256 - d) d n (by omega) (.inr ⟨_,sk_some hs,fun _ => hd⟩)
   exact ⟨d,t,ht,by omega,.inl (by rw [← hdi,hd])⟩
 rw [if_neg h2] at hdi
 obtain ⟨t,ht⟩:=Rep.ex G.fit 256 0 n rfl (.inr ⟨_,sk_some hs,fun e => absurd e h2⟩)
 exact ⟨0,t,ht,by omega,.inr ⟨hdi.symm,rfl⟩⟩
theorem EntsAt.lp {L:Ents} {v:Value} {out:List Pr} (h:EntsAt w w' F L v out) (hF:∀ k,F k → k < w.heap.size):Lp w' v out:=by
 obtain ⟨h1,_,h3,h4,h5⟩:=h
 exact ⟨h1.base (fun _ _ => Nat.zero_le _),h3,fun x hx => ⟨(h4 x hx).1,(h4 x hx).2.1,fun _ k hk => Nat.lt_of_lt_of_le (hF k ((h4 x hx).2.2 k hk)) h5.size⟩⟩
theorem RDigest_zero (h:RAt w b F ρ):Calls Tryz.prog 125 #[.pointer (some ⟨b,0,none⟩),.int .i64 0] w fun e w' => e = .returned (.agg (brow Tag.emptyD)) ∧ Adds w w':=by
 obtain ⟨Z,hZ⟩:∃ Z,Z = brow (List.replicate 32 0):=⟨_,rfl⟩
 have hzh:=zeroH
 rw [← hZ] at hzh
 have hZs:Z.size = 32:=by rw [hZ]; rfl
 obtain ⟨O,hO⟩:∃ O,O = brow Tag.emptyD:=⟨_,rfl⟩
 have hos:O.size = 32:=by rw [hO,brow_size]; exact Tag.digest_length _ _
 have ho1:=brow_one Tag.emptyD
 have hcall:=REmpty_ok
 rw [← hO] at ho1 hcall ⊢
 have a0:Adds w (w.alloc (.cells Z 118)):=(Ch.refl _ _).alloc _
 have HN:=Lib.hid (RNone_no (h.adds a0))
 have HC:=Lib.hid hcall
 have HZ:=(hIq hzh hZs)
 have HO:=(hIq hO (aIq hos ho1))
 clear hzh hZs hZ hO hos ho1 hcall h a0
 go_enter Tryz.func125,Tryz.ntmps125
 go_wp2_with (first | fail | ((with_reducible show zOq (.alloc 118)); refine wpList_alloc_is rfl 118 rfl (.agg Z) HZ.out.1 ?_; dsimp only [Value.cells]; try simp only [World.size_alloc]))
 refine HN.out.mono ?_; rintro e w1 ⟨rfl,rfl⟩
 go_wp2_with fail
 refine (HC.out _).mono ?_; rintro e w4 ⟨rfl,hc4⟩
 have hz4:=hc4.row (heap_alloc_new w (.cells Z 118)) id
 have hw4:=((Ch.refl (fun _ => False) w).alloc (.cells Z 118)).trans hc4 (fun _ => fEq)
 have Z4:=Lib.hid hz4
 have W4:=Lib.hid hw4
 clear hc4 hz4 hw4
 go_wp2_with (first
  | fail
  | ((with_reducible show zOq (.store 118 _ _)); refine wpList_store_part rfl 118 _ _ rfl w.heap.size 0 O rfl rfl Z4.out (by rw [sizeH,HO.out.2.1]) (by rw [HO.out.2.1,HZ.out.2]; omega) HO.out.2.2 O (by rw [splice_all _ _ (by rw [Array.length_toList,Array.length_toList,HO.out.2.1,HZ.out.2])]) ?_))
 exact bodyPost_ret_cell1 (p:=4) rfl rfl (row_setRow_same Z4.out _) Tryz.underlying118 rfl (by rw [sizeH,HO.out.2.1]) rfl ⟨rfl,W4.out.setRow (.inr (Nat.le_refl _)) _⟩
theorem RDigest_none (h:RAt w b F ρ) {n:Int} (h0:¬ n = 0) (hh:ρ.has n = false):Calls Tryz.prog 125 #[.pointer (some ⟨b,0,none⟩),.int .i64 n] w fun e w' => e = .returned (.agg (brow Nd.z32)) ∧ Adds w w':=by
 obtain ⟨Z,hZ⟩:∃ Z,Z = brow Nd.z32:=⟨_,rfl⟩
 have hzh:(Tryz.prog.info? 118).bind (·.zero) = some (.agg (brow Nd.z32)):=zeroH
 have hzb:Tryz.prog.built 118 [] = some (brow Nd.z32):=by kernel_rfl
 rw [← hZ] at hzh hzb ⊢
 have hZs:Z.size = 32 ∧ ∀ v ∈ Z.toList,v.oneCell' = true:=by rw [hZ]; exact ⟨rfl,brow_ones _⟩
 have a0:Adds w (w.alloc (.cells Z 118)):=(Ch.refl _ _).alloc _
 have hhas:=RHas_ok (h.adds a0) n
 rw [hh] at hhas
 have HN:=Lib.hid hhas
 have HZ:=(hIq hzh (aIq hZs (aIq hzb a0)))
 clear hzh hZs hZ hzb h hhas hh a0
 go_enter Tryz.func125,Tryz.ntmps125
 go_wp2_with (first | fail | ((with_reducible show zOq (.alloc 118)); refine wpList_alloc_is rfl 118 rfl (.agg Z) HZ.out.1 ?_; dsimp only [Value.cells]; try simp only [World.size_alloc]))
 refine HN.out.mono ?_; rintro e w1 ⟨rfl,rfl⟩
 have hk1:=heap_alloc_new w (.cells Z 118)
 have H1:=Lib.hid hk1
 have hlt:=row_lt hk1
 clear hk1
 go_wp2_with (first
  | fail
  | ((with_reducible show zOq (.build 118 #[])); refine wpList_build_none rfl 118 rfl Z HZ.out.2.2.1 ?_)
  | ((with_reducible show zOq (.store 118 _ _)); refine wpList_store_part rfl 118 _ _ rfl w.heap.size 0 Z rfl rfl H1.out (by rw [sizeH,HZ.out.2.1.1]) (by omega) HZ.out.2.1.2 Z (by rw [splice_all _ _ rfl]) ?_))
 exact bodyPost_ret_cell1 (p:=4) rfl rfl (row_setRow_same H1.out _) Tryz.underlying118 rfl (by rw [sizeH,HZ.out.2.1.1]) rfl ⟨rfl,HZ.out.2.2.2.setRow (.inr (Nat.le_refl _)) _⟩
theorem RDigest_some (h:RAt w b F ρ) {n:Int} (h0:¬ n = 0) (hh:ρ.has n = true) {D:Int} (hd:ρ.depth n = D) (d:Nat) (hD:(if 0 > D then 0 else D) = (d:Int)) {O:Array Value} (hO:O.size = 32 ∧ ∀ v ∈ O.toList,v.oneCell' = true)
 {t:Ents} (hE:∀ w1,RAt w1 b F ρ → Calls Tryz.prog 106 #[.pointer (some ⟨b,0,none⟩),.int .i64 n] w1 fun e w' => ∃ v out,e = .returned v ∧ EntsAt w1 w' F t v out)
 (hA:∀ w1 v out,Adds w w1 → Lp w1 v out → out.map Pr.ent = t → Calls Tryz.prog 186 #[v,.int .i64 (d:Int)] w1 fun e w' => e = .returned (.agg O) ∧ Adds w1 w') :
 Calls Tryz.prog 125 #[.pointer (some ⟨b,0,none⟩),.int .i64 n] w fun e w' => e = .returned (.agg O) ∧ Adds w w':=by
 obtain ⟨Z,hZ⟩:∃ Z,Z = brow (List.replicate 32 0):=⟨_,rfl⟩
 have hzh:=zeroH
 rw [← hZ] at hzh
 have hZs:Z.size = 32:=by rw [hZ]; rfl
 have a0:Adds w (w.alloc (.cells Z 118)):=(Ch.refl _ _).alloc _
 have hhas:=RHas_ok (h.adds a0) n
 rw [hh] at hhas
 have hdep:=fun w1 (a:Adds w w1) => RDepth_ok (h.adds a) n
 rw [hd] at hdep
 have HN:=Lib.hid hhas
 have HD:=(hIq hdep hD)
 have HZ:=(hIq hzh (aIq hZs a0))
 have HO:=Lib.hid hO
 have HE:=Lib.hid (hE _ (h.adds a0))
 have hlt0:∀ k,F k → k < (w.alloc (.cells Z 118)).heap.size:=fun k hk => Nat.lt_of_lt_of_le (h.lt k hk) a0.size
 have HA:=(hIq hA hlt0)
 have hmax:∀ (ts:Array TypeId) (ty:TypeId) (w1:World),(Builtin.max_ ts ty #[.int .i64 D,.int .i64 0]).run Tryz.prog w1 = .ok (.int .i64 (d:Int)) w1:=fun ts ty w1 => by
  rw [run_max_int2,hD]
 clear hzh hZs hZ h hhas hdep hh hd hD a0 hE hA hO hlt0
 go_enter Tryz.func125,Tryz.ntmps125
 go_wp2_with (first | fail | ((with_reducible show zOq (.alloc 118)); refine wpList_alloc_is rfl 118 rfl (.agg Z) HZ.out.1 ?_; dsimp only [Value.cells]; try simp only [World.size_alloc]))
 refine HN.out.mono ?_; rintro e w1 ⟨rfl,rfl⟩
 go_wp2_with fail
 refine HE.out.mono ?_; rintro e w1 ⟨v,out,rfl,hEn⟩
 have hlp:=hEn.lp HA.out.2
 have hen:=hEn.2.1
 have ha1:=hEn.2.2.2.2
 obtain ⟨q,qc,rfl⟩:=hlp.row.form
 obtain ⟨m,hm⟩:∃ m,m = out.length:=⟨_,rfl⟩
 rw [← hm] at hlp ⊢
 have H1:=(hIq hlp (aIq hen (aIq (HZ.out.2.2.trans ha1 (fun _ => fEq)) (ha1.row (heap_alloc_new w (.cells Z 118)) id))))
 clear hlp hen ha1 hm hEn
 go_wp2_with fail
 refine (HD.out.1 _ H1.out.2.2.1).mono ?_; rintro e w2 ⟨rfl,a2⟩
 have A2:=Lib.hid a2
 clear a2
 go_wp2_with fail
 refine (HA.out.1 _ _ out (H1.out.2.2.1.trans A2.out (fun _ => fEq)) (H1.out.1.adds A2.out) H1.out.2.1).mono ?_; rintro e w4 ⟨rfl,hc4⟩
 have Z4:=Lib.hid (hc4.row (A2.out.row H1.out.2.2.2 id) id)
 have W4:=Lib.hid ((H1.out.2.2.1.trans A2.out (fun _ => fEq)).trans hc4 (fun _ => fEq))
 clear hc4
 go_wp2_with (first
  | fail
  | ((with_reducible show zOq (.store 118 _ _)); refine wpList_store_part rfl 118 _ _ rfl w.heap.size 0 O rfl rfl Z4.out (by rw [sizeH,HO.out.1]) (by rw [HO.out.1,HZ.out.2.1]; omega) HO.out.2 O (by rw [splice_all _ _ (by rw [Array.length_toList,Array.length_toList,HO.out.1,HZ.out.2.1])]) ?_))
 exact bodyPost_ret_cell1 (p:=4) rfl rfl (row_setRow_same Z4.out _) Tryz.underlying118 rfl (by rw [sizeH,HO.out.1]) rfl ⟨rfl,W4.out.setRow (.inr (Nat.le_refl _)) _⟩
theorem RDigest_ok (h:RAt w b F ρ) (L:Lk σ ρ) (G:Good σ) (n:Int):Calls Tryz.prog 125 #[.pointer (some ⟨b,0,none⟩),.int .i64 n] w fun e w' => e = .returned (.agg (brow (digestOf σ n))) ∧ Adds w w':=by
 by_cases h0:n = 0
 · subst h0
   have e:digestOf σ 0 = Tag.emptyD:=by unfold digestOf; rw [if_pos rfl]
   rw [e]
   exact RDigest_zero h
 cases hs:σ.get? n with
 | none =>
  have e:digestOf σ n = Nd.z32:=by unfold digestOf; rw [if_neg h0,nd_none hs]; rfl
  rw [e]
  exact RDigest_none h h0 (by rw [L.has G]; exact has_none hs)
 | some s =>
  obtain ⟨d,t,hr,hd,hdd⟩:=rep_deep G hs
  have hdig:digestOf σ n = (tree (256 - d) t.ents).dig:=by rw [digestOf_sk,hr.dig G.fit, ← Rep.canon G.fit hr (256 - d) (by omega)]
  obtain ⟨_,_,k,hok⟩:=Rep.fine G.fit hr
  have hle:t.ents.length ≤ 65536:=Nat.le_trans (ents_le G hr) (Nat.le_trans G.sound.wf.len G.sound.wf.room.2)
  have hvs:=(hr.ents G.fit).1
  have hdp:ρ.depth n = depth σ n:=by rw [← depth_is G n, ← L.depth G n]; rfl
  rw [hdig]
  refine RDigest_some h h0 (by rw [L.has G]; exact has_some hs) hdp d ?_ ⟨by rw [brow_size]; exact tree_dig_length _,brow_one _⟩ (fun w1 h1 => REntries_ok L G hr h1) (fun w1 v out a hl he => ?_)
  · rcases hdd with e | ⟨e,e0⟩
    · rw [e,if_neg (by omega)]
    rw [e,e0]; rfl
  rw [← he] at hok hle hvs ⊢
  refine RAtD_ok (256 - d) d (by omega) hl (by simpa using hle) (fun x hx => ?_) hok
  have:=(hvs x.ent (List.mem_map.2 ⟨x,hx,rfl⟩)).2
  exact Nat.le_trans this (by omega)
end
end Go.Proofs.YtmeglndnkdgkoaaGreat.Store

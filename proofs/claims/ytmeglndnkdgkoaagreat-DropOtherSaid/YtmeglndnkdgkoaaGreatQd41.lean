/- Proved contracts and plain laws of the layers below, in one text. -/
import Derived.Test.YtmeglndnkdgkoaaGreatQd40
set_option maxHeartbeats 3200000
set_option maxRecDepth 100000
set_option linter.unusedVariables false
namespace Go.Proofs.YtmeglndnkdgkoaaGreat.Store
open Go Go.RowKit Go.Proofs.YtmeglndnkdgkoaaGreat Go.Proofs.YtmeglndnkdgkoaaGreat.ShaW Go.Proofs.YtmeglndnkdgkoaaGreat.Path Go.Proofs.YtmeglndnkdgkoaaGreat.Law9
section
variable {w0 w w' : World} {s b : Nat} {F G : Nat → Prop} {σ : SlabSt Nd}
theorem ints_cell {w:World} {b1 n:Nat} {ao:Option Addr} {c:Nat} {l:List Nat} (h:w.ownsRow b1 3 1 (.slice ao n c) n (ints l)) {k:Nat} (hk:k < n):∃ g x,ao = some ⟨g,0,none⟩ ∧ l[k]? = some x ∧ w.cell? ⟨g,k,none⟩ = some (.int .i64 (x:Nat)):=by
 have hl:(ints l).length = n * 1:=h.1
 rw [show (ints l).length = l.length by simp [ints]] at hl
 obtain ⟨x,hx⟩:∃ x,l[k]? = some x:=⟨_,List.getElem?_eq_getElem (by omega)⟩
 obtain ⟨g,cap,cur,e,hg,h1,h2,h3,h4⟩:=owns_block h (by omega)
 injection e with e1 _ _
 refine ⟨g,x,e1,hx,row_cell hg (take_get h4 ?_)⟩
 simp [ints,hx]
theorem SameNums_ok {w:World} {b1 b2 n:Nat} {v1 v2:Value} {l:List Nat} (h1:w.ownsRow b1 3 1 v1 n (ints l)) (h2:w.ownsRow b2 3 1 v2 n (ints l)) (hn:n ≤ 65536) :
 Calls Tryz.prog 56 #[v1,v2] w fun e w' => e = .returned (.bool true) ∧ Adds w w':=by
 obtain ⟨a1,c1,e1⟩:=owns_form h1
 obtain ⟨a2,c2,e2⟩:=owns_form h2
 subst e1
 subst e2
 have H:=(hIq h1 h2)
 have hn':(n:Int) ≤ 65536:=by omega
 clear h1 h2
 go_enter Tryz.func56,Tryz.ntmps56
 go_wp2
 go_loopg [5] n (fun g s5 wr => ∃ k:Nat,k ≤ n ∧ g = n - k ∧ s5 = .int .i64 k ∧ Adds w wr)
 case atStart => exact ⟨0,Nat.zero_le _,rfl,rfl,Ch.refl _ _⟩
 obtain ⟨k,hk,rfl,rfl,hA⟩:=hrel
 by_cases hkl:k < n
 · obtain ⟨g1,x,rfl,hx,f1⟩:=ints_cell H.out.1 hkl
   obtain ⟨g2,x2,rfl,hx2,f2⟩:=ints_cell H.out.2 hkl
   rw [hx] at hx2
   cases hx2
   have f1:=hA.cell f1 id
   have f2:=hA.cell f2 id
   have hkz:(k:Int) < (n:Int):=by omega
   have HA:=Lib.hid hA
   clear hA hx
   go_wp2
   refine wp_region_plan (fun w0 => w0 = (wr).drew) 9 [(0,false),(1,false),(2,false),(3,false),(4,false),(5,false),(6,false),(7,false),(8,false)] (by kernel_rfl) (by kernel_rfl) rfl ?_
   iterate 9 refine plan_look rfl rfl (fun w0 hS => (by subst hS; go_simp; try rfl)) ?_
   refine plan_end ?_
   simp only [List.drop_succ_cons,List.drop_zero,Act.put,List.setIfInBounds_toArray,List.set_cons_succ,List.set_cons_zero]
   go_wp2
   refine NoPanic.normal ?_
   go_wp2
   go_roundg (n - (k + 1))
   case measure => omega
   exact ⟨k + 1,by omega,rfl,by go_num,HA.out.drew⟩
 obtain rfl:k = n:=by omega
 have HA:=Lib.hid hA
 clear hA
 go_wp2
 go_ret
 exact ⟨rfl,HA.out⟩
theorem Same_ok (hA:At w s F σ) (hR:ROw w0 w b σ G) (GG:Good σ) :
 Calls Tryz.prog 18 #[.pointer (some ⟨s,0,none⟩),.pointer (some ⟨b,0,none⟩),.bool false] w fun e w' => e = .returned (.bool true) ∧ Adds w w':=by
 have hHd:=fun w1 (a:Adds w w1) => Handles_ok (hA.adds a)
 have hOc:=fun w1 (a:Adds w w1) => Occupied_ok (hA.adds a)
 have hRm:=fun w1 (a:Adds w w1) => Room_ok (hA.adds a)
 have rHd:=fun w1 (a:Adds w w1) => (hR.adds a).handles GG
 have rOc:=fun w1 (a:Adds w w1) => (hR.adds a).occupied GG
 have rRm:=fun w1 (a:Adds w w1) => (hR.adds a).room
 have hLk:=fun w1 (a:Adds w w1) n => Look_ok (hA.adds a) (hR.adds a) GG n
 have hrow:∃ ns,ns ≤ 65536 ∧ ∀ w1,Adds w w1 → ∃ ao cap,w1.cell? ⟨b,2,none⟩ = some (.slice ao ns cap):=by
  obtain ⟨ρ,F2,h1,L,_⟩:=hR
  refine ⟨ρ.spots.length,by have:=h1.1.len; have:=h1.1.space; omega,fun w1 a => ?_⟩
  obtain ⟨ao,cap,vf,hb⟩:=(h1.adds a).head
  exact ⟨ao,cap,row_cell hb rfl⟩
 obtain ⟨ns,hns,hrow⟩:=hrow
 have hl65:(handles σ).length ≤ 65536:=by
  have h1:=handles_length (σ:=σ)
  have h2:=live_used GG.sound.wf
  have:=(hA.used_le).1
  omega
 obtain ⟨us,hus⟩:∃ x,x = σ.used:=⟨_,rfl⟩
 obtain ⟨rm,hrm⟩:∃ x,x = σ.room:=⟨_,rfl⟩
 obtain ⟨l,hl⟩:∃ l,l = handles σ:=⟨_,rfl⟩
 rw [← hl] at hHd rHd hl65
 obtain ⟨n,hn⟩:∃ n,n = l.length:=⟨_,rfl⟩
 rw [← hn] at hHd rHd hl65
 rw [← hus] at hOc rOc
 rw [← hrm] at hRm rRm
 have HHd:=Lib.hid hHd
 have HOc:=Lib.hid hOc
 have HRm:=Lib.hid hRm
 have THd:=Lib.hid rHd
 have TOc:=Lib.hid rOc
 have TRm:=Lib.hid rRm
 have HLk:=Lib.hid hLk
 have HRow:=Lib.hid hrow
 have A0:=Lib.hid (Ch.refl (fun _ => False) w)
 clear hHd hOc hRm rHd rOc rRm hLk hrow hus hrm hl hn hA hR GG
 go_enter Tryz.func18,Tryz.ntmps18
 go_wp2_with fail
 refine (HHd.out _ A0.out).mono ?_; rintro e w1 ⟨v1,rfl,o1,a1⟩
 obtain ⟨b1,c1,rfl⟩:=owns_form o1
 have H1:=(hIq o1 (A0.out.trans a1 (fun _ => fEq)))
 clear o1 a1
 go_wp2_with fail
 refine (HHd.out _ H1.out.2).mono ?_; rintro e w2 ⟨v2,rfl,o2,a2⟩
 obtain ⟨b2,c2,rfl⟩:=owns_form o2
 have H2:=(hIq (a2.owns H1.out.1 (fun _ _ h => h)) (aIq o2 (H1.out.2.trans a2 (fun _ => fEq))))
 clear o2 a2
 go_wp2_with fail
 refine (HOc.out _ H2.out.2.2).mono ?_; rintro e w3 ⟨rfl,rfl⟩
 go_wp2_with fail
 refine (TOc.out _ H2.out.2.2).mono ?_; rintro e w4 ⟨rfl,a4⟩
 have H4:=(hIq (a4.owns H2.out.1 (fun _ _ h => h)) (aIq (a4.owns H2.out.2.1 (fun _ _ h => h)) (H2.out.2.2.trans a4 (fun _ => fEq))))
 clear a4
 go_wp2_with fail
 refine (HRm.out _ H4.out.2.2).mono ?_; rintro e w5 ⟨rfl,rfl⟩
 go_wp2_with fail
 refine (TRm.out _ H4.out.2.2).mono ?_; rintro e w5 ⟨rfl,rfl⟩
 go_wp2_with fail
 refine (THd.out _ H4.out.2.2).mono ?_; rintro e w6 ⟨v6,rfl,o6,a6⟩
 obtain ⟨b6,c6,rfl⟩:=owns_form o6
 have hsm:=SameNums_ok (a6.owns H4.out.1 (fun _ _ h => h)) o6 hl65
 have HSM:=Lib.hid hsm
 have H6:=(hIq (a6.owns H4.out.1 (fun _ _ h => h)) (aIq (a6.owns H4.out.2.1 (fun _ _ h => h)) (H4.out.2.2.trans a6 (fun _ => fEq))))
 clear o6 a6 hsm
 go_wp2_with fail
 refine HSM.out.mono ?_; rintro e w7 ⟨rfl,a7⟩
 have H7:=(hIq (a7.owns H6.out.1 (fun _ _ h => h)) (aIq (a7.owns H6.out.2.1 (fun _ _ h => h)) (H6.out.2.2.trans a7 (fun _ => fEq))))
 clear a7
 go_wp2_with fail
 have hG:∃ g,0 < n → b1 = some ⟨g,0,none⟩ ∧ w.heap.size ≤ g ∧ g < w1.heap.size ∧ ∃ cur,w7.heap[g]? = some (.cells cur 3 (0,0)) ∧ n ≤ cur.size:=by
  by_cases h0:0 < n
  · obtain ⟨g,cap,cur,e,hg,h1,h2,h3,h4⟩:=owns_block H7.out.1 h0
    injection e with e1 _ _
    subst e1
    have q:=(H7.out.1.lt _ rfl).1
    have q2:=(H1.out.1.lt _ rfl).2
    exact ⟨g,fun _ => ⟨rfl,q,q2,cur,hg,by omega⟩⟩
  exact ⟨0,fun h => absurd h h0⟩
 obtain ⟨g0,hG⟩:=hG
 have HG:=Lib.hid hG
 clear hG
 go_loopg [9] n (fun g s9 wr => ∃ k:Nat,k ≤ n ∧ g = n - k ∧ s9 = .int .i64 k ∧ Ch (fun j => 0 < n ∧ j = g0) w7 wr ∧ (0 < n → ∃ cur,wr.heap[g0]? = some (.cells cur 3 (0,0)) ∧ n ≤ cur.size))
 case atStart => exact ⟨0,Nat.zero_le _,rfl,rfl,Ch.refl _ _,fun h => (HG.out h).2.2.2⟩
 obtain ⟨k,hk,rfl,rfl,hch,hcur⟩:=hrel
 by_cases hkl:k < n
 · obtain ⟨rfl,_⟩:=HG.out (by omega)
   obtain ⟨cur,hcur,hsz⟩:=hcur (by omega)
   obtain ⟨y,hy⟩:∃ y,cur[k]? = some y:=⟨_,Array.getElem?_eq_getElem (by omega)⟩
   have c1:=row_cell hcur hy
   have f1:=row_free hcur k
   have l1:=row_lt hcur
   have hkz:(k:Int) < (n:Int):=by omega
   have hset:=row_set_same hcur k (.int .i64 (-7))
   have HS:=(hIq hset (aIq hch hsz))
   clear hset hch hcur hsz hy
   go_wp2
   go_roundg (n - (k + 1))
   case measure => omega
   exact ⟨k + 1,by omega,rfl,by go_num,HS.out.2.1.setCell (p:=⟨g0,k,none⟩) (.inl ⟨by omega,rfl⟩) _,fun _ => ⟨_,HS.out.1,by rw [Array.size_setIfInBounds]; exact HS.out.2.2⟩⟩
 obtain rfl:k = n:=by omega
 have hA8:Adds w wr:=H7.out.2.2.trans hch (fun j hj => .inr (hj.2 ▸ (HG.out hj.1).2.1))
 have ho8:=hch.owns H7.out.2.1 (fun j hj hq => by
  have h1:=(HG.out hq.1).2.2.1
  have h2:=(H7.out.2.1.lt _ hj).1
  have h3:=hq.2
  omega)
 have H8:=(hIq hA8 ho8)
 clear hA8 ho8 hch hcur hkl hk
 go_wp2_with fail
 refine (THd.out _ H8.out.1).mono ?_; rintro e w9 ⟨v9,rfl,o9,a9⟩
 obtain ⟨b9,c9,rfl⟩:=owns_form o9
 have hsm:=SameNums_ok (a9.owns H8.out.2 (fun _ _ h => h)) o9 hl65
 have HSM:=Lib.hid hsm
 have H9:=Lib.hid (H8.out.1.trans a9 (fun _ => fEq))
 clear o9 a9 hsm
 go_wp2_with fail
 refine HSM.out.mono ?_; rintro e w10 ⟨rfl,a10⟩
 have H10:=Lib.hid (H9.out.trans a10 (fun _ => fEq))
 clear a10
 go_wp2_with fail
 go_loopg [10] (ns + 3) (fun g s10 wr => ∃ k:Nat,k ≤ ns + 3 ∧ g = ns + 3 - k ∧ s10 = .int .i64 ((k:Int) - 1) ∧ Adds w wr)
 case atStart => exact ⟨0,Nat.zero_le _,rfl,rfl,H10.out⟩
 obtain ⟨k,hk,rfl,rfl,hA⟩:=hrel
 obtain ⟨ao,cap,hc⟩:=HRow.out _ hA
 have HA:=Lib.hid hA
 clear hA
 have hw1:IntKind.i64.wrap ((ns:Int) + 1) = (ns:Int) + 1:=IntWalk.i64_in _ (by omega)
 by_cases hkl:k < ns + 3
 · have hkz:(k:Int) - 1 ≤ (ns:Int) + 1:=by omega
   go_wp2_with fail
   refine (HLk.out _ HA.out _).mono ?_; rintro e w11 ⟨rfl,a11⟩
   have HA2:=Lib.hid (HA.out.trans a11 (fun _ => fEq))
   clear a11
   go_wp2
   go_roundg (ns + 3 - (k + 1))
   case measure => omega
   exact ⟨k + 1,by omega,rfl,by go_num,HA2.out⟩
 have hkz:¬ ((k:Int) - 1 ≤ (ns:Int) + 1):=by omega
 go_wp2
 go_ret
 exact ⟨rfl,HA.out⟩
end
section
variable {w0 w w' : World} {c s b n : Nat} {σ : SlabSt Nd} {root : Int} {aside : List Int} {G : Nat → Prop}
theorem Same_scene (h:ScAt w0 w c s b σ σ root aside G) (GG:Good σ) :
 Calls Tryz.prog 18 #[.pointer (some ⟨s,0,none⟩),.pointer (some ⟨b,0,none⟩),.bool false] w fun e w' => e = .returned (.bool true) ∧ Adds w w':=by
 obtain ⟨F,hA⟩:=h.ow.at
 exact Same_ok hA h.row9 GG
end
section
variable {w0 w w' : World} {c s b n : Nat} {σ : SlabSt Nd} {root : Int} {aside : List Int} {G : Nat → Prop}
theorem play10_ok (n:Nat) (h1:1 ≤ n) (h2:n ≤ 65536) {ao:Option Addr} {len:Nat} (cap:Nat) (hs:Small w ao len) (hl:len ≤ 16) :
 Calls Tryz.prog 23 #[.int .i64 (n:Int),.slice ao len cap] w fun e w' => PlayRet w w' n len e:=by
 unfold PlayRet
 have hn:=New9_ok n h1 h2 w
 unfold NewRet at hn
 have HN:=Lib.hid hn
 have HS:=(hIq hs (Sce.new (n:=n) h1 h2))
 clear hn hs h1 h2
 go_enter Tryz.func23,Tryz.ntmps23
 go_wp2_with fail
 refine HN.out.mono ?_; rintro e w1 ⟨c,s,b,rfl,S1⟩
 have H1:=Lib.hid S1
 clear S1
 go_wp2
 go_loopg [7,8] len (fun g s7 s8 wr => ∃ (k:Nat) (σ:SlabSt Nd) (root:Int) (L:Ents) (A:List (Int × Ents)),k ≤ len ∧ g = len - k ∧ s7 = .bool true ∧ s8 = .int .i64 k ∧ ScAt w wr c s b σ σ root (firsts A) (fun k => k < w.heap.size) ∧ Sce σ root L A n k)
 case atStart => exact ⟨0,_,_,_,[],Nat.zero_le _,rfl,rfl,rfl,H1.out,HS.out.2⟩
 obtain ⟨k,σ,root,L,A,hk,rfl,rfl,rfl,hS,hP⟩:=hrel
 have HK:=(hIq hS hP)
 by_cases hkl:k < len
 · obtain ⟨g,off,x,rfl,hx,hp,hv⟩:=HS.out.1 k hkl
   obtain ⟨cur,t,fr,hr,hfit,hext⟩:=hp.keep hS.world id
   have hxs:=Act9.size hx.key
   rw [hxs] at hfit hext
   have hdo:=act10_ok hS hP (by omega) x hx hv
   unfold DoRet at hdo
   obtain ⟨C,hC⟩:∃ C,C = x.cells:=⟨_,rfl⟩
   rw [← hC] at hext hdo hxs
   have HD:=Lib.hid hdo
   have HR:=(hIq hr (aIq hfit hext))
   have hki:decide ((k:Int) < (len:Int)) = true:=decide_eq_true (by omega)
   clear hr hfit hext hdo hC hx hp hxs hS hP hv
   go_wp2_with (first
    | fail
    | ((with_reducible show zOq (.load 47 _)); refine wpList_load_part rfl 47 _ rfl g (off + k * 35) rfl HR.out.1 Tryz.underlying47 rfl sizeAct9 HR.out.2.1 C HR.out.2.2 ?_))
   refine HD.out.mono ?_; rintro e w3 ⟨rfl,σ',root',L',A',S3,P3⟩
   have H3:=(hIq S3 P3)
   clear S3 P3
   go_wp2
   go_roundg (len - (k + 1))
   case measure => omega
   exact ⟨k + 1,σ',root',L',A',by omega,rfl,rfl,by go_num,H3.out.1,H3.out.2⟩
 obtain rfl:k = len:=by omega
 have hki:decide ((k:Int) < (k:Int)) = false:=decide_eq_false (by omega)
 clear hS hP
 go_wp2
 go_ret2
 exact ⟨c,s,b,σ,root,L,A,rfl,HK.out.1,HK.out.2⟩
theorem drop10_script (room:Int) {ao:Option Addr} {len:Nat} (cap:Nat) (ha:Law9.ActsAt w ao len) :
 Calls Tryz.prog 6 #[.int .i64 room,.slice ao len cap] w fun e w' => e = .returned (.bool true) ∧ Adds w w':=by
 have hL:=Large_ok room cap ha
 unfold LargeRet at hL
 have HL:=Lib.hid hL
 have A0:=Lib.hid (Ch.refl (fun _ => False) w)
 clear hL ha
 go_enter Tryz.func6,Tryz.ntmps6
 go_wp2_with fail
 refine HL.out.mono ?_; rintro e w1 ⟨B,rfl,rfl,hB⟩
 cases B with
 | true =>
  clear hB
  go_wp2
  go_ret
  exact ⟨rfl,A0.out⟩
 | false =>
  obtain ⟨r1,r2,r3,hs⟩:=hB rfl
  obtain ⟨n,rfl⟩:∃ n:Nat,room = n:=⟨room.toNat,by omega⟩
  have hP:=play10_ok (w:=w) n (by omega) (by omega) cap hs r3
  unfold PlayRet at hP
  have HP:=Lib.hid hP
  clear hP hs r1 r2 r3
  go_wp2_with fail
  refine HP.out.mono ?_; rintro e w2 ⟨c,s,b,σ,root,L,A,rfl,S2,P2⟩
  obtain ⟨va,vc,hr,_⟩:=S2.row
  have H2:=(hIq hr (aIq S2 P2))
  clear S2 P2 hr
  go_wp2
  refine wp_region_plan (fun wz => wz.heap[c]? = some (.cells #[.pointer (some ⟨s,0,none⟩),.pointer (some ⟨b,0,none⟩),.int .i64 root,.slice va (firsts A).length vc] 45 (0,0))) 13 [(0,false),(1,false),(2,false),(3,false),(4,false),(5,false),(6,false),(7,false),(8,false),(9,false),(10,true),(11,false),(12,false)] (by kernel_rfl) (by kernel_rfl) ?_ ?_
  · exact row_drew H2.out.1
  iterate 5
   refine plan_look rfl rfl (fun w0 hS => (by clear hS; go_simp; try rfl)) ?_
   simp only [Act.put,nAq,nBq,nCq]
  refine plan_look (v:=.pointer (some ⟨s,0,none⟩)) rfl rfl (fun w0 hS => (by have c1:=row_cell hS (i:=0) (v:=.pointer (some ⟨s,0,none⟩)) rfl; clear hS; go_simp; try rfl)) ?_
  simp only [Act.put,nAq,nBq,nCq]
  iterate 3
   refine plan_look rfl rfl (fun w0 hS => (by clear hS; go_simp; try rfl)) ?_
   simp only [Act.put,nAq,nBq,nCq]
  refine plan_look (v:=.pointer (some ⟨b,0,none⟩)) rfl rfl (fun w0 hS => (by have c1:=row_cell hS (i:=1) (v:=.pointer (some ⟨b,0,none⟩)) rfl; clear hS; go_simp; try rfl)) ?_
  simp only [Act.put,nAq,nBq,nCq]
  refine plan_do rfl ?_
  go_wp2_with fail
  refine (Same_scene (H2.out.2.1.adds (Ch.refl _ _).drew) H2.out.2.2.roots.good).mono ?_; rintro e w3 ⟨rfl,a3⟩
  have H3:=(hIq (a3.row (row_drew H2.out.1) id) (show Adds w2 w3 from (Ch.refl (fun _ => False) w2).drew.trans a3 (fun _ => fEq)))
  clear a3
  dsimp only
  go_step
  refine wpList_nil ?_
  change _ ∧ _
  refine ⟨H3.out.1,?_⟩
  iterate 2
   refine plan_look rfl rfl (fun w0 hS => (by clear hS; go_simp; try rfl)) ?_
   simp only [Act.put,nAq,nBq,nCq]
  refine plan_end ?_; simp only [List.drop_succ_cons,List.drop_zero]
  go_wp2
  refine NoPanic.normal ?_
  go_wp2
  go_ret
  exact ⟨rfl,H2.out.2.1.world.trans H3.out.2 (fun _ => fEq)⟩
theorem drop10_other (room:Int) {ao:Option Addr} {len:Nat} (cap:Nat) (ha:Law9.ActsAt w ao len) (r:Int) (key:List UInt8) (hk:key.length = 32) :
 Calls Tryz.prog 7 #[.int .i64 room,.slice ao len cap,.int .i64 r,.agg (brow key)] w fun e w' => e = .returned (.bool true) ∧ Adds w w':=by
 have A0:Adds w (w.alloc (.cells (brow key) 31)):=(Ch.refl (fun _ => False) w).alloc _
 have hL:=Large_ok room cap (ha.keep A0 (fun _ => fEq))
 unfold LargeRet at hL
 have HL:=Lib.hid hL
 obtain ⟨K,hK⟩:∃ K,K = brow key:=⟨_,rfl⟩
 have hKs:K.size = 32:=by rw [hK,brow_size,hk]
 have hKx:K.extract 0 (0 + 32) = K:=by simp [← hKs]
 rw [← hK] at A0 HL
 rw [← hK]
 obtain ⟨W,hW⟩:∃ W,W = w.alloc (.cells K 31):=⟨_,rfl⟩
 have hgx:W.heap[w.heap.size]? = some (.cells K 31 (0,0)):=by rw [hW]; exact heap_alloc_new w _
 have hlt:=row_lt hgx
 rw [← hW] at A0 HL
 have HX:=(hIq hKs hKx)
 have HX0:=(hIq hgx (aIq hlt A0))
 have HKK:=(hIq hK hk)
 clear hL ha hK hk hKs hKx hgx hlt A0
 go_enter Tryz.func7,Tryz.ntmps7
 go_wp2_with fail
 simp only [← hW]
 refine HL.out.mono ?_; rintro e w1 ⟨B,rfl,rfl,hB⟩
 cases B with
 | true =>
  clear hB hW
  go_wp2
  go_ret
  exact ⟨rfl,HX0.out.2.2⟩
 | false =>
  obtain ⟨r1,r2,r3,hs⟩:=hB rfl
  obtain ⟨n,rfl⟩:∃ n:Nat,room = n:=⟨room.toNat,by omega⟩
  have hP:=play10_ok (w:=W) n (by omega) (by omega) cap hs r3
  unfold PlayRet at hP
  have HP:=Lib.hid hP
  have HR3:=Lib.hid r3
  clear hP hs r1 r2 r3 hW hB
  go_wp2_with fail
  refine HP.out.mono ?_; rintro e w2 ⟨c,s,b,σ,root,L,A,rfl,S2,P2⟩
  obtain ⟨va,vc,hr,_⟩:=S2.row
  have GG:=P2.roots.good
  have htot:total σ + 1000 < 1073741824:=by have:=P2.tot; have:=HR3.out; omega
  have hc1:=fun w1 (h:ScAt W w1 c s b σ σ root (firsts A) (fun k => k < W.heap.size)) => DCost_any h.ow GG r HKK.out.2
  have hc2:=fun w1 (h:ScAt W w1 c s b σ σ root (firsts A) (fun k => k < W.heap.size)) (y:Int) (hC:DCostTo σ r key y) => DCost10_any h.row9 GG r HKK.out.2 hC
  have hd1:=fun w1 (h:ScAt W w1 c s b σ σ root (firsts A) (fun k => k < W.heap.size)) => drop_impl h GG r HKK.out.2
  have hd2:=fun (w1:World) (τ:SlabSt Nd) (x':Int) (g:Bool) (σ':SlabSt Nd) (h2:ScAt W w1 c s b τ σ root (firsts A) (fun k => k < W.heap.size)) (hP:DropTo σ r key x' g σ') => drop_refr h2 GG r HKK.out.2 htot hP
  obtain ⟨er,her⟩:∃ er,er = dropErr σ r:=⟨_,rfl⟩
  obtain ⟨eh,heh⟩:∃ eh,eh = atHand σ r:=⟨_,rfl⟩
  rw [← HKK.out.1, ← heh] at hc1 hc2
  rw [← HKK.out.1, ← her] at hd1 hd2
  have HC1:=Lib.hid hc1
  have HC2:=Lib.hid hc2
  have HD1:=Lib.hid hd1
  have HD2:=Lib.hid hd2
  have H2:=(hIq hr (aIq (S2.world.row HX0.out.1 id) (aIq S2 P2)))
  clear S2 P2 hr hc1 hc2 hd1 hd2 her heh GG htot
  go_wp2
  refine wp_region_plan (fun wz => (∃ va,wz.heap[c]? = some (.cells #[.pointer (some ⟨s,0,none⟩),.pointer (some ⟨b,0,none⟩),.int .i64 root,va] 45 (0,0))) ∧ wz.heap[w.heap.size]? = some (.cells K 31 (0,0))) 12 [(0,false),(1,false),(2,false),(3,false),(4,false),(5,false),(6,true),(7,false),(8,false),(9,false),(10,false),(11,false)] (by kernel_rfl) (by kernel_rfl) ?_ ?_
  · exact ⟨⟨_,row_drew H2.out.1⟩,row_drew H2.out.2.1⟩
  iterate 3
   refine plan_look rfl rfl (fun w0 hS => (by clear hS; go_simp; try rfl)) ?_
   simp only [Act.put,nAq,nBq,nCq]
  refine plan_look (v:=.pointer (some ⟨s,0,none⟩)) rfl rfl (fun w0 hS => (by obtain ⟨⟨va,hva⟩,_⟩:=hS; have c1:=row_cell hva (i:=0) (v:=.pointer (some ⟨s,0,none⟩)) rfl; clear hva; go_simp; try rfl)) ?_
  simp only [Act.put,nAq,nBq,nCq]
  iterate 1
   refine plan_look rfl rfl (fun w0 hS => (by clear hS; go_simp; try rfl)) ?_
   simp only [Act.put,nAq,nBq,nCq]
  refine plan_load_part (cur:=K) (t:=31) (fr:=(0,0)) rfl rfl 31 (.tmp 7) rfl w.heap.size 0 32 rfl (fun w0 hS => hS.2) Tryz.underlying31 rfl sizeP (by rw [HX.out.1]; omega) K HX.out.2 ?_
  simp only [Act.put,nAq,nBq,nCq]
  refine plan_do rfl ?_
  go_wp2_with fail
  refine (HC1.out _ (H2.out.2.2.1.adds (Ch.refl (fun _ => False) _).drew)).mono ?_; rintro e w3 ⟨y,rfl,hp,a3⟩
  have a3':Adds w2 w3:=(Ch.refl (fun _ => False) w2).drew.trans a3 (fun _ => fEq)
  have H3:=(hIq (a3'.row H2.out.1 id) (aIq (a3'.row H2.out.2.1 id) (aIq (H2.out.2.2.1.adds a3') hp)))
  clear a3 a3' hp
  dsimp only
  go_step
  refine wpList_nil ?_
  change _ ∧ _
  refine ⟨⟨⟨_,H3.out.1⟩,H3.out.2.1⟩,?_⟩
  iterate 5
   refine plan_look rfl rfl (fun w0 hS => (by clear hS; go_simp; try rfl)) ?_
   simp only [Act.put,nAq,nBq,nCq]
  refine plan_end ?_; simp only [List.drop_succ_cons,List.drop_zero]
  go_wp2
  refine NoPanic.normal ?_
  go_wp2
  refine wp_region_plan (fun wz => (∃ va,wz.heap[c]? = some (.cells #[.pointer (some ⟨s,0,none⟩),.pointer (some ⟨b,0,none⟩),.int .i64 root,va] 45 (0,0))) ∧ wz.heap[w.heap.size]? = some (.cells K 31 (0,0))) 12 [(0,false),(1,false),(2,false),(3,false),(4,false),(5,false),(6,true),(7,false),(8,false),(9,false),(10,false),(11,false)] (by kernel_rfl) (by kernel_rfl) ?_ ?_
  · exact ⟨⟨_,row_drew H3.out.1⟩,row_drew H3.out.2.1⟩
  iterate 3
   refine plan_look rfl rfl (fun w0 hS => (by clear hS; go_simp; try rfl)) ?_
   simp only [Act.put,nAq,nBq,nCq]
  refine plan_look (v:=.pointer (some ⟨b,0,none⟩)) rfl rfl (fun w0 hS => (by obtain ⟨⟨va,hva⟩,_⟩:=hS; have c1:=row_cell hva (i:=1) (v:=.pointer (some ⟨b,0,none⟩)) rfl; clear hva; go_simp; try rfl)) ?_
  simp only [Act.put,nAq,nBq,nCq]
  iterate 1
   refine plan_look rfl rfl (fun w0 hS => (by clear hS; go_simp; try rfl)) ?_
   simp only [Act.put,nAq,nBq,nCq]
  refine plan_load_part (cur:=K) (t:=31) (fr:=(0,0)) rfl rfl 31 (.tmp 7) rfl w.heap.size 0 32 rfl (fun w0 hS => hS.2) Tryz.underlying31 rfl sizeP (by rw [HX.out.1]; omega) K HX.out.2 ?_
  simp only [Act.put,nAq,nBq,nCq]
  refine plan_do rfl ?_
  go_wp2_with fail
  refine (HC2.out _ (H3.out.2.2.1.adds (Ch.refl (fun _ => False) _).drew) y H3.out.2.2.2).mono ?_; rintro e w4 ⟨rfl,a4⟩
  have a4':Adds w3 w4:=(Ch.refl (fun _ => False) w3).drew.trans a4 (fun _ => fEq)
  have H4:=(hIq (a4'.row H3.out.1 id) (aIq (a4'.row H3.out.2.1 id) (H3.out.2.2.1.adds a4')))
  clear a4 a4'
  dsimp only
  go_step
  refine wpList_nil ?_
  change _ ∧ _
  refine ⟨⟨⟨_,H4.out.1⟩,H4.out.2.1⟩,?_⟩
  iterate 5
   refine plan_look rfl rfl (fun w0 hS => (by clear hS; go_simp; try rfl)) ?_
   simp only [Act.put,nAq,nBq,nCq]
  refine plan_end ?_; simp only [List.drop_succ_cons,List.drop_zero]
  go_wp2
  refine NoPanic.normal ?_
  go_wp2
  refine wp_region_plan (fun wz => (∃ va,wz.heap[c]? = some (.cells #[.pointer (some ⟨s,0,none⟩),.pointer (some ⟨b,0,none⟩),.int .i64 root,va] 45 (0,0))) ∧ wz.heap[w.heap.size]? = some (.cells K 31 (0,0))) 14 [(0,false),(1,false),(2,false),(3,false),(4,false),(5,false),(6,true),(7,false),(8,false),(9,false),(10,false),(11,false),(12,false),(13,false)] (by kernel_rfl) (by kernel_rfl) ?_ ?_
  · exact ⟨⟨_,row_drew H4.out.1⟩,row_drew H4.out.2.1⟩
  iterate 3
   refine plan_look rfl rfl (fun w0 hS => (by clear hS; go_simp; try rfl)) ?_
   simp only [Act.put,nAq,nBq,nCq]
  refine plan_look (v:=.pointer (some ⟨s,0,none⟩)) rfl rfl (fun w0 hS => (by obtain ⟨⟨va,hva⟩,_⟩:=hS; have c1:=row_cell hva (i:=0) (v:=.pointer (some ⟨s,0,none⟩)) rfl; clear hva; go_simp; try rfl)) ?_
  simp only [Act.put,nAq,nBq,nCq]
  iterate 1
   refine plan_look rfl rfl (fun w0 hS => (by clear hS; go_simp; try rfl)) ?_
   simp only [Act.put,nAq,nBq,nCq]
  refine plan_load_part (cur:=K) (t:=31) (fr:=(0,0)) rfl rfl 31 (.tmp 7) rfl w.heap.size 0 32 rfl (fun w0 hS => hS.2) Tryz.underlying31 rfl sizeP (by rw [HX.out.1]; omega) K HX.out.2 ?_
  simp only [Act.put,nAq,nBq,nCq]
  refine plan_do rfl ?_
  go_wp2_with fail
  refine (HD1.out _ (H4.out.2.2.adds (Ch.refl (fun _ => False) _).drew)).mono ?_; rintro e w5 ⟨σ1,⟨x,g,rfl,hp⟩,S5,B5⟩
  obtain ⟨va5,vc5,hr5,_⟩:=S5.row
  have hx5:=S5.world.row HX0.out.1 id
  have H5:=(hIq hr5 (aIq hx5 (aIq S5 hp)))
  clear S5 B5 hr5 hx5 hp
  dsimp only
  go_step
  refine wpList_nil ?_
  change _ ∧ _
  refine ⟨⟨⟨_,H5.out.1⟩,H5.out.2.1⟩,?_⟩
  iterate 7
   refine plan_look rfl rfl (fun w0 hS => (by clear hS; go_simp; try rfl)) ?_
   simp only [Act.put,nAq,nBq,nCq]
  refine plan_end ?_; simp only [List.drop_succ_cons,List.drop_zero]
  go_wp2
  refine NoPanic.normal ?_
  go_wp2
  refine wp_region_plan (fun wz => (∃ va,wz.heap[c]? = some (.cells #[.pointer (some ⟨s,0,none⟩),.pointer (some ⟨b,0,none⟩),.int .i64 root,va] 45 (0,0))) ∧ wz.heap[w.heap.size]? = some (.cells K 31 (0,0))) 14 [(0,false),(1,false),(2,false),(3,false),(4,false),(5,false),(6,true),(7,false),(8,false),(9,false),(10,false),(11,false),(12,false),(13,false)] (by kernel_rfl) (by kernel_rfl) ?_ ?_
  · exact ⟨⟨_,row_drew H5.out.1⟩,row_drew H5.out.2.1⟩
  iterate 3
   refine plan_look rfl rfl (fun w0 hS => (by clear hS; go_simp; try rfl)) ?_
   simp only [Act.put,nAq,nBq,nCq]
  refine plan_look (v:=.pointer (some ⟨b,0,none⟩)) rfl rfl (fun w0 hS => (by obtain ⟨⟨va,hva⟩,_⟩:=hS; have c1:=row_cell hva (i:=1) (v:=.pointer (some ⟨b,0,none⟩)) rfl; clear hva; go_simp; try rfl)) ?_
  simp only [Act.put,nAq,nBq,nCq]
  iterate 1
   refine plan_look rfl rfl (fun w0 hS => (by clear hS; go_simp; try rfl)) ?_
   simp only [Act.put,nAq,nBq,nCq]
  refine plan_load_part (cur:=K) (t:=31) (fr:=(0,0)) rfl rfl 31 (.tmp 7) rfl w.heap.size 0 32 rfl (fun w0 hS => hS.2) Tryz.underlying31 rfl sizeP (by rw [HX.out.1]; omega) K HX.out.2 ?_
  simp only [Act.put,nAq,nBq,nCq]
  refine plan_do rfl ?_
  go_wp2_with fail
  refine (HD2.out _ _ _ _ _ (H5.out.2.2.1.adds (Ch.refl (fun _ => False) _).drew) H5.out.2.2.2).mono ?_; rintro e w6 ⟨rfl,S6,B6⟩
  obtain ⟨va6,vc6,hr6,_⟩:=S6.row
  have hx6:=S6.world.row HX0.out.1 id
  have G6:=H5.out.2.2.2.good H2.out.2.2.2.roots.good
  have H6:=(hIq hr6 (aIq hx6 (aIq S6 G6)))
  clear S6 B6 hr6 hx6 G6
  dsimp only
  go_step
  refine wpList_nil ?_
  change _ ∧ _
  refine ⟨⟨⟨_,H6.out.1⟩,H6.out.2.1⟩,?_⟩
  iterate 7
   refine plan_look rfl rfl (fun w0 hS => (by clear hS; go_simp; try rfl)) ?_
   simp only [Act.put,nAq,nBq,nCq]
  refine plan_end ?_; simp only [List.drop_succ_cons,List.drop_zero]
  go_wp2
  refine NoPanic.normal ?_
  go_wp2
  refine wp_region_plan (fun wz => (∃ va,wz.heap[c]? = some (.cells #[.pointer (some ⟨s,0,none⟩),.pointer (some ⟨b,0,none⟩),.int .i64 root,va] 45 (0,0))) ∧ wz.heap[w.heap.size]? = some (.cells K 31 (0,0))) 35 [(0,false),(1,false),(2,false),(3,false),(4,false),(5,false),(6,false),(7,false),(8,false),(9,false),(10,false),(11,false),(12,false),(13,false),(14,false),(15,false),(16,false),(17,false),(18,false),(19,false),(20,false),(21,false),(22,false),(23,false),(24,false),(25,false),(26,false),(27,false),(28,false),(29,false),(30,false),(31,false),(32,true),(33,false),(34,false)] (by kernel_rfl) (by kernel_rfl) ?_ ?_
  · exact ⟨⟨_,row_drew H6.out.1⟩,row_drew H6.out.2.1⟩
  iterate 2
   refine plan_look rfl rfl (fun w0 hS => (by clear hS; go_simp; try rfl)) ?_
   simp only [Act.put,nAq,nBq,nCq]
  refine plan_look (v:=.bool true) rfl rfl (fun w0 hS => (by clear hS; go_simp; try simp)) ?_
  simp only [Act.put,nAq,nBq,nCq]
  iterate 3
   refine plan_look rfl rfl (fun w0 hS => (by clear hS; go_simp; try rfl)) ?_
   simp only [Act.put,nAq,nBq,nCq]
  refine plan_look (v:=.bool true) rfl rfl (fun w0 hS => (by clear hS; go_simp; try simp)) ?_
  simp only [Act.put,nAq,nBq,nCq]
  iterate 4
   refine plan_look rfl rfl (fun w0 hS => (by clear hS; go_simp; try rfl)) ?_
   simp only [Act.put,nAq,nBq,nCq]
  refine plan_look (v:=.bool true) rfl rfl (fun w0 hS => (by clear hS; go_simp; try simp)) ?_
  simp only [Act.put,nAq,nBq,nCq]
  iterate 4
   refine plan_look rfl rfl (fun w0 hS => (by clear hS; go_simp; try rfl)) ?_
   simp only [Act.put,nAq,nBq,nCq]
  refine plan_look (v:=.bool true) rfl rfl (fun w0 hS => (by clear hS; go_simp; try simp)) ?_
  simp only [Act.put,nAq,nBq,nCq]
  iterate 4
   refine plan_look rfl rfl (fun w0 hS => (by clear hS; go_simp; try rfl)) ?_
   simp only [Act.put,nAq,nBq,nCq]
  refine plan_look (v:=.bool true) rfl rfl (fun w0 hS => (by clear hS; go_simp; try simp)) ?_
  simp only [Act.put,nAq,nBq,nCq]
  iterate 5
   refine plan_look rfl rfl (fun w0 hS => (by clear hS; go_simp; try rfl)) ?_
   simp only [Act.put,nAq,nBq,nCq]
  refine plan_look (v:=.pointer (some ⟨s,0,none⟩)) rfl rfl (fun w0 hS => (by obtain ⟨⟨va,hva⟩,_⟩:=hS; have c1:=row_cell hva (i:=0) (v:=.pointer (some ⟨s,0,none⟩)) rfl; clear hva; go_simp; try rfl)) ?_
  simp only [Act.put,nAq,nBq,nCq]
  iterate 3
   refine plan_look rfl rfl (fun w0 hS => (by clear hS; go_simp; try rfl)) ?_
   simp only [Act.put,nAq,nBq,nCq]
  refine plan_look (v:=.pointer (some ⟨b,0,none⟩)) rfl rfl (fun w0 hS => (by obtain ⟨⟨va,hva⟩,_⟩:=hS; have c1:=row_cell hva (i:=1) (v:=.pointer (some ⟨b,0,none⟩)) rfl; clear hva; go_simp; try rfl)) ?_
  simp only [Act.put,nAq,nBq,nCq]
  refine plan_do rfl ?_
  go_wp2_with fail
  refine (Same_scene (H6.out.2.2.1.adds (Ch.refl (fun _ => False) _).drew) H6.out.2.2.2).mono ?_; rintro e w7 ⟨rfl,a7⟩
  have a7':Adds w6 w7:=(Ch.refl (fun _ => False) w6).drew.trans a7 (fun _ => fEq)
  have H7:=(hIq (a7'.row H6.out.1 id) (aIq (a7'.row H6.out.2.1 id) a7'))
  clear a7 a7'
  dsimp only
  go_step
  refine wpList_nil ?_
  change _ ∧ _
  refine ⟨⟨⟨_,H7.out.1⟩,H7.out.2.1⟩,?_⟩
  iterate 2
   refine plan_look rfl rfl (fun w0 hS => (by clear hS; go_simp; try rfl)) ?_
   simp only [Act.put,nAq,nBq,nCq]
  refine plan_end ?_; simp only [List.drop_succ_cons,List.drop_zero]
  go_wp2
  refine NoPanic.normal ?_
  go_wp2
  go_ret
  exact ⟨rfl,(HX0.out.2.2.trans H6.out.2.2.1.world (fun _ => fEq)).trans H7.out.2.2 (fun _ => fEq)⟩
end
end Go.Proofs.YtmeglndnkdgkoaaGreat.Store
namespace Go.Proofs.YtmeglndnkdgkoaaGreat
open Go Go.RowKit Go.Proofs.YtmeglndnkdgkoaaGreat.ShaW Go.Proofs.YtmeglndnkdgkoaaGreat.Path Go.Proofs.YtmeglndnkdgkoaaGreat.Store Go.Proofs.YtmeglndnkdgkoaaGreat.Law9 Go.Deep Go.ChangeShapes Go.WideShapes Go.ChangeAt
def InPath (W:World) (v:Value):Prop := ∃ k:List UInt8,k.length = 32 ∧ v = .agg (brow k)
section
variable {H : Type} {enc : TypeId × Value → H} {W : World} {base : Nat} {v : Value} {d : DataW H} {p : List MemPlace}
theorem in_path (hv:Value.okWide Tryz.prog W .any base 31 v)
 (h:DataW.Trod enc Tryz.prog W 0 (fun _ => true) true 31 v d p):InPath W v:=by
 simp only [Value.okWide,Tryz.underlying31] at hv
 obtain ⟨cs,rfl,_,_⟩:=hv
 obtain ⟨m,hm⟩:=h
 obtain ⟨k,e,hk⟩:=read_key hm
 refine ⟨k,hk,?_⟩
 congr 1
 apply Array.ext'
 rw [show cs.toList = _ from e]
 rfl
end
end Go.Proofs.YtmeglndnkdgkoaaGreat

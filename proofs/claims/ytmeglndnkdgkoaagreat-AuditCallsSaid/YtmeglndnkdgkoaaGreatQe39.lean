/- Laws of the layers below. -/
import Derived.Test.YtmeglndnkdgkoaaGreatQe38
set_option maxHeartbeats 3200000
set_option maxRecDepth 100000
set_option linter.unusedVariables false
namespace Go.Proofs.YtmeglndnkdgkoaaGreat.Store
open Go.RowKit Go.Proofs.YtmeglndnkdgkoaaGreat.ShaW Go.Proofs.YtmeglndnkdgkoaaGreat.Path Go.Proofs.YtmeglndnkdgkoaaGreat.Law9
section
variable {w0 w w' : World} {s b : Nat} {F G : Nat → Prop} {σ : SlabSt Nd}
theorem ints_cell {w:World} {b1 n:Nat} {ao:Option Addr} {c:Nat} {l:List Nat} (h:w.ownsRow b1 3 1 (.slice ao n c) n (ints l)) {k:Nat} (hk:k < n):∃ g x,ao = some ⟨g,0,none⟩ ∧ l[k]? = some x ∧ w.cell? ⟨g,k,none⟩ = some (.int .i64 (x:Nat)):=by
 have hl:(ints l).length = n * 1:=h.1
 rw [show (ints l).length = l.length by simp [ints]] at hl
 obtain ⟨x,hx⟩:∃ x,l[k]? = some x:=⟨_,List.getElem?_eq_getElem (by omega)⟩
 obtain ⟨g,cap,cur,e,hg,h1,h2,h3,h4⟩:=owns_block h (by omega)
 injection e with e1 _ _
 refine ⟨g,x,e1,hx,row_cell hg (take_get h4 ?_)⟩
 simp [ints,hx]
theorem SameNums_ok {w:World} {b1 b2 n:Nat} {v1 v2:Value} {l:List Nat} (h1:w.ownsRow b1 3 1 v1 n (ints l)) (h2:w.ownsRow b2 3 1 v2 n (ints l)) (hn:n ≤ 65536) :
 Calls Tryz.prog 56 #[v1,v2] w fun e w' => e = .returned (.bool true) ∧ Adds w w':=by
 obtain ⟨a1,c1,e1⟩:=owns_form h1
 obtain ⟨a2,c2,e2⟩:=owns_form h2
 subst e1
 subst e2
 have H:=(hIq h1 h2)
 have hn':(n:Int) ≤ 65536:=by omega
 clear h1 h2
 go_enter Tryz.func56,Tryz.ntmps56
 go_wp2
 go_loopg [5] n (fun g s5 wr => ∃ k:Nat,k ≤ n ∧ g = n - k ∧ s5 = .int .i64 k ∧ Adds w wr)
 case atStart => exact ⟨0,Nat.zero_le _,rfl,rfl,Ch.refl _ _⟩
 obtain ⟨k,hk,rfl,rfl,hA⟩:=hrel
 by_cases hkl:k < n
 · obtain ⟨g1,x,rfl,hx,f1⟩:=ints_cell H.out.1 hkl
   obtain ⟨g2,x2,rfl,hx2,f2⟩:=ints_cell H.out.2 hkl
   rw [hx] at hx2
   cases hx2
   have f1:=hA.cell f1 id
   have f2:=hA.cell f2 id
   have hkz:(k:Int) < (n:Int):=by omega
   have HA:=Lib.hid hA
   clear hA hx
   go_wp2
   refine wp_region_plan (fun w0 => w0 = (wr).drew) 9 [(0,false),(1,false),(2,false),(3,false),(4,false),(5,false),(6,false),(7,false),(8,false)] (by kernel_rfl) (by kernel_rfl) rfl ?_
   iterate 9 refine plan_look rfl rfl (fun w0 hS => (by subst hS; go_simp; try rfl)) ?_
   refine plan_end ?_
   simp only [List.drop_succ_cons,List.drop_zero,Act.put,List.setIfInBounds_toArray,List.set_cons_succ,List.set_cons_zero]
   go_wp2
   refine NoPanic.normal ?_
   go_wp2
   go_roundg (n - (k + 1))
   case measure => omega
   exact ⟨k + 1,by omega,rfl,by go_num,HA.out.drew⟩
 obtain rfl:k = n:=by omega
 have HA:=Lib.hid hA
 clear hA
 go_wp2
 go_ret
 exact ⟨rfl,HA.out⟩
theorem Same_ok (hA:At w s F σ) (hR:ROw w0 w b σ G) (GG:Good σ) :
 Calls Tryz.prog 18 #[.pointer (some ⟨s,0,none⟩),.pointer (some ⟨b,0,none⟩),.bool false] w fun e w' => e = .returned (.bool true) ∧ Adds w w':=by
 have hHd:=fun w1 (a:Adds w w1) => Handles_ok (hA.adds a)
 have hOc:=fun w1 (a:Adds w w1) => Occupied_ok (hA.adds a)
 have hRm:=fun w1 (a:Adds w w1) => Room_ok (hA.adds a)
 have rHd:=fun w1 (a:Adds w w1) => (hR.adds a).handles GG
 have rOc:=fun w1 (a:Adds w w1) => (hR.adds a).occupied GG
 have rRm:=fun w1 (a:Adds w w1) => (hR.adds a).room
 have hLk:=fun w1 (a:Adds w w1) n => Look_ok (hA.adds a) (hR.adds a) GG n
 have hrow:∃ ns,ns ≤ 65536 ∧ ∀ w1,Adds w w1 → ∃ ao cap,w1.cell? ⟨b,2,none⟩ = some (.slice ao ns cap):=by
  obtain ⟨ρ,F2,h1,L,_⟩:=hR
  refine ⟨ρ.spots.length,by have:=h1.1.len; have:=h1.1.space; omega,fun w1 a => ?_⟩
  obtain ⟨ao,cap,vf,hb⟩:=(h1.adds a).head
  exact ⟨ao,cap,row_cell hb rfl⟩
 obtain ⟨ns,hns,hrow⟩:=hrow
 have hl65:(handles σ).length ≤ 65536:=by
  have h1:=handles_length (σ:=σ)
  have h2:=live_used GG.sound.wf
  have:=(hA.used_le).1
  omega
 obtain ⟨us,hus⟩:∃ x,x = σ.used:=⟨_,rfl⟩
 obtain ⟨rm,hrm⟩:∃ x,x = σ.room:=⟨_,rfl⟩
 obtain ⟨l,hl⟩:∃ l,l = handles σ:=⟨_,rfl⟩
 rw [← hl] at hHd rHd hl65
 obtain ⟨n,hn⟩:∃ n,n = l.length:=⟨_,rfl⟩
 rw [← hn] at hHd rHd hl65
 rw [← hus] at hOc rOc
 rw [← hrm] at hRm rRm
 have HHd:=Lib.hid hHd
 have HOc:=Lib.hid hOc
 have HRm:=Lib.hid hRm
 have THd:=Lib.hid rHd
 have TOc:=Lib.hid rOc
 have TRm:=Lib.hid rRm
 have HLk:=Lib.hid hLk
 have HRow:=Lib.hid hrow
 have A0:=Lib.hid (Ch.refl (fun _ => False) w)
 clear hHd hOc hRm rHd rOc rRm hLk hrow hus hrm hl hn hA hR GG
 go_enter Tryz.func18,Tryz.ntmps18
 go_wp2_with fail
 refine (HHd.out _ A0.out).mono ?_; rintro e w1 ⟨v1,rfl,o1,a1⟩
 obtain ⟨b1,c1,rfl⟩:=owns_form o1
 have H1:=(hIq o1 (A0.out.trans a1 (fun _ => fEq)))
 clear o1 a1
 go_wp2_with fail
 refine (HHd.out _ H1.out.2).mono ?_; rintro e w2 ⟨v2,rfl,o2,a2⟩
 obtain ⟨b2,c2,rfl⟩:=owns_form o2
 have H2:=(hIq (a2.owns H1.out.1 (fun _ _ h => h)) (aIq o2 (H1.out.2.trans a2 (fun _ => fEq))))
 clear o2 a2
 go_wp2_with fail
 refine (HOc.out _ H2.out.2.2).mono ?_; rintro e w3 ⟨rfl,rfl⟩
 go_wp2_with fail
 refine (TOc.out _ H2.out.2.2).mono ?_; rintro e w4 ⟨rfl,a4⟩
 have H4:=(hIq (a4.owns H2.out.1 (fun _ _ h => h)) (aIq (a4.owns H2.out.2.1 (fun _ _ h => h)) (H2.out.2.2.trans a4 (fun _ => fEq))))
 clear a4
 go_wp2_with fail
 refine (HRm.out _ H4.out.2.2).mono ?_; rintro e w5 ⟨rfl,rfl⟩
 go_wp2_with fail
 refine (TRm.out _ H4.out.2.2).mono ?_; rintro e w5 ⟨rfl,rfl⟩
 go_wp2_with fail
 refine (THd.out _ H4.out.2.2).mono ?_; rintro e w6 ⟨v6,rfl,o6,a6⟩
 obtain ⟨b6,c6,rfl⟩:=owns_form o6
 have hsm:=SameNums_ok (a6.owns H4.out.1 (fun _ _ h => h)) o6 hl65
 have HSM:=Lib.hid hsm
 have H6:=(hIq (a6.owns H4.out.1 (fun _ _ h => h)) (aIq (a6.owns H4.out.2.1 (fun _ _ h => h)) (H4.out.2.2.trans a6 (fun _ => fEq))))
 clear o6 a6 hsm
 go_wp2_with fail
 refine HSM.out.mono ?_; rintro e w7 ⟨rfl,a7⟩
 have H7:=(hIq (a7.owns H6.out.1 (fun _ _ h => h)) (aIq (a7.owns H6.out.2.1 (fun _ _ h => h)) (H6.out.2.2.trans a7 (fun _ => fEq))))
 clear a7
 go_wp2_with fail
 have hG:∃ g,0 < n → b1 = some ⟨g,0,none⟩ ∧ w.heap.size ≤ g ∧ g < w1.heap.size ∧ ∃ cur,w7.heap[g]? = some (.cells cur 3 (0,0)) ∧ n ≤ cur.size:=by
  by_cases h0:0 < n
  · obtain ⟨g,cap,cur,e,hg,h1,h2,h3,h4⟩:=owns_block H7.out.1 h0
    injection e with e1 _ _
    subst e1
    have q:=(H7.out.1.lt _ rfl).1
    have q2:=(H1.out.1.lt _ rfl).2
    exact ⟨g,fun _ => ⟨rfl,q,q2,cur,hg,by omega⟩⟩
  exact ⟨0,fun h => absurd h h0⟩
 obtain ⟨g0,hG⟩:=hG
 have HG:=Lib.hid hG
 clear hG
 go_loopg [9] n (fun g s9 wr => ∃ k:Nat,k ≤ n ∧ g = n - k ∧ s9 = .int .i64 k ∧ Ch (fun j => 0 < n ∧ j = g0) w7 wr ∧ (0 < n → ∃ cur,wr.heap[g0]? = some (.cells cur 3 (0,0)) ∧ n ≤ cur.size))
 case atStart => exact ⟨0,Nat.zero_le _,rfl,rfl,Ch.refl _ _,fun h => (HG.out h).2.2.2⟩
 obtain ⟨k,hk,rfl,rfl,hch,hcur⟩:=hrel
 by_cases hkl:k < n
 · obtain ⟨rfl,_⟩:=HG.out (by omega)
   obtain ⟨cur,hcur,hsz⟩:=hcur (by omega)
   obtain ⟨y,hy⟩:∃ y,cur[k]? = some y:=⟨_,Array.getElem?_eq_getElem (by omega)⟩
   have c1:=row_cell hcur hy
   have f1:=row_free hcur k
   have l1:=row_lt hcur
   have hkz:(k:Int) < (n:Int):=by omega
   have hset:=row_set_same hcur k (.int .i64 (-7))
   have HS:=(hIq hset (aIq hch hsz))
   clear hset hch hcur hsz hy
   go_wp2
   go_roundg (n - (k + 1))
   case measure => omega
   exact ⟨k + 1,by omega,rfl,by go_num,HS.out.2.1.setCell (p:=⟨g0,k,none⟩) (.inl ⟨by omega,rfl⟩) _,fun _ => ⟨_,HS.out.1,by rw [Array.size_setIfInBounds]; exact HS.out.2.2⟩⟩
 obtain rfl:k = n:=by omega
 have hA8:Adds w wr:=H7.out.2.2.trans hch (fun j hj => .inr (hj.2 ▸ (HG.out hj.1).2.1))
 have ho8:=hch.owns H7.out.2.1 (fun j hj hq => by
  have h1:=(HG.out hq.1).2.2.1
  have h2:=(H7.out.2.1.lt _ hj).1
  have h3:=hq.2
  omega)
 have H8:=(hIq hA8 ho8)
 clear hA8 ho8 hch hcur hkl hk
 go_wp2_with fail
 refine (THd.out _ H8.out.1).mono ?_; rintro e w9 ⟨v9,rfl,o9,a9⟩
 obtain ⟨b9,c9,rfl⟩:=owns_form o9
 have hsm:=SameNums_ok (a9.owns H8.out.2 (fun _ _ h => h)) o9 hl65
 have HSM:=Lib.hid hsm
 have H9:=Lib.hid (H8.out.1.trans a9 (fun _ => fEq))
 clear o9 a9 hsm
 go_wp2_with fail
 refine HSM.out.mono ?_; rintro e w10 ⟨rfl,a10⟩
 have H10:=Lib.hid (H9.out.trans a10 (fun _ => fEq))
 clear a10
 go_wp2_with fail
 go_loopg [10] (ns + 3) (fun g s10 wr => ∃ k:Nat,k ≤ ns + 3 ∧ g = ns + 3 - k ∧ s10 = .int .i64 ((k:Int) - 1) ∧ Adds w wr)
 case atStart => exact ⟨0,Nat.zero_le _,rfl,rfl,H10.out⟩
 obtain ⟨k,hk,rfl,rfl,hA⟩:=hrel
 obtain ⟨ao,cap,hc⟩:=HRow.out _ hA
 have HA:=Lib.hid hA
 clear hA
 have hw1:IntKind.i64.wrap ((ns:Int) + 1) = (ns:Int) + 1:=IntWalk.i64_in _ (by omega)
 by_cases hkl:k < ns + 3
 · have hkz:(k:Int) - 1 ≤ (ns:Int) + 1:=by omega
   go_wp2_with fail
   refine (HLk.out _ HA.out _).mono ?_; rintro e w11 ⟨rfl,a11⟩
   have HA2:=Lib.hid (HA.out.trans a11 (fun _ => fEq))
   clear a11
   go_wp2
   go_roundg (ns + 3 - (k + 1))
   case measure => omega
   exact ⟨k + 1,by omega,rfl,by go_num,HA2.out⟩
 have hkz:¬ ((k:Int) - 1 ≤ (ns:Int) + 1):=by omega
 go_wp2
 go_ret
 exact ⟨rfl,HA.out⟩
end
theorem sizeFn:(Tryz.prog.info? 103).map (·.size) = some 3:=by kernel_rfl
theorem fdL_row {l:List (Int × Int × Int)} {i:Nat} {x:Int × Int × Int} (h:l[i]? = some x):((fdL l).drop (i * 3)).take 3 = [.int .i64 x.1,.int .i64 x.2.1,.int .i64 x.2.2]:=by
 induction l generalizing i with
 | nil => simp at h
 | cons y l ih =>
  cases i with
  | zero =>
   obtain rfl:y = x:=by simpa using h
   rfl
  | succ i =>
   have e:fdL (y :: l) = [.int .i64 y.1,.int .i64 y.2.1,.int .i64 y.2.2] ++ fdL l:=rfl
   rw [e,show (i + 1) * 3 = 3 + i * 3 by omega, ← List.drop_drop]
   exact ih (by simpa using h)
def RowF (w:World) (ao:Option Addr) (n cap:Nat) (l:List (Int × Int × Int)):Prop:=w.ownsRow 0 103 3 (.slice ao n cap) n (fdL l) ∧ l.length = n
section
variable {w w' : World} {ao bo : Option Addr} {n c1 c2 : Nat} {l : List (Int × Int × Int)}
theorem RowF.adds (h:RowF w ao n c1 l) (a:Adds w w'):RowF w' ao n c1 l:=⟨a.owns h.1 (fun _ _ h => h),h.2⟩
theorem RowF.cell (h:RowF w ao n c1 l) {k:Nat} (hk:k < n):∃ g x cur,ao = some ⟨g,0,none⟩ ∧ l[k]? = some x ∧ w.heap[g]? = some (.cells cur 103 (0,0)) ∧ k * 3 + 3 ≤ cur.size ∧ cur.extract (k * 3) (k * 3 + 3) = #[.int .i64 x.1,.int .i64 x.2.1,.int .i64 x.2.2]:=by
 obtain ⟨x,hx⟩:∃ x,l[k]? = some x:=⟨_,List.getElem?_eq_getElem (by have:=h.2; omega)⟩
 obtain ⟨g,cap',cur,e,hg,h1,h2,h3,h4⟩:=owns_block h.1 (by omega)
 injection e with e1 _ _
 have hs:k * 3 + 3 ≤ n * 3:=by omega
 have hc:n * 3 ≤ cur.size:=by rw [h3]; exact Nat.mul_le_mul_right _ h1
 refine ⟨g,x,cur,e1,hx,hg,by omega,?_⟩
 apply Array.ext'
 rw [← fdL_row hx, ← h4]
 simp only [Array.toList_extract,List.extract]
 rw [List.drop_take,List.take_take,show k * 3 + 3 - k * 3 = 3 by omega,Nat.min_eq_left (by omega)]
theorem findings_ok (h1:RowF w ao n c1 l) (h2:RowF w bo n c2 l) (hn:n ≤ 65536) :
 Calls Tryz.prog 48 #[.slice ao n c1,.slice bo n c2] w fun e w' => e = .returned (.bool true) ∧ Adds w w':=by
 have H:=(hIq h1 h2)
 have hn':(n:Int) ≤ 65536:=by omega
 clear h1 h2
 go_enter Tryz.func48,Tryz.ntmps48
 go_wp2
 go_loopg [5] n (fun g s5 wr => ∃ k:Nat,k ≤ n ∧ g = n - k ∧ s5 = .int .i64 k ∧ Adds w wr)
 case atStart => exact ⟨0,Nat.zero_le _,rfl,rfl,Ch.refl _ _⟩
 obtain ⟨k,hk,rfl,rfl,hA⟩:=hrel
 by_cases hkl:k < n
 · obtain ⟨g1,x,cur1,rfl,hx,r1,s1,e1⟩:=(H.out.1.adds hA).cell hkl
   obtain ⟨g2,x2,cur2,rfl,hx2,r2,s2,e2⟩:=(H.out.2.adds hA).cell hkl
   rw [hx] at hx2
   cases hx2
   have hkz:(k:Int) < (n:Int):=by omega
   obtain ⟨a,b,c⟩:=x
   have HA:=Lib.hid hA
   have H1:=(hIq r1 (aIq s1 e1))
   have H2:=(hIq r2 (aIq s2 e2))
   clear hA hx r1 s1 e1 r2 s2 e2
   go_wp2
   refine wp_region_plan (fun wz => wz = wr.drew) 9 [(0,false),(1,false),(2,false),(3,false),(4,false),(5,false),(6,false),(7,false),(8,false)] (by kernel_rfl) (by kernel_rfl) ?_ ?_
   · rfl
   iterate 3
    refine plan_look rfl rfl (fun w0 hS => (by clear hS; go_simp; try rfl)) ?_
    simp only [Act.put,nAq,nBq,nCq]
   refine Law9.plan_gload_part (cur:=cur1) (t:=103) (fr:=(0,0)) rfl rfl 103 _ rfl g1 (k * 3) 3 rfl (fun w0 hS => by rw [hS]; exact row_drew H1.out.1) Tryz.underlying103 rfl sizeFn H1.out.2.1 #[.int .i64 a,.int .i64 b,.int .i64 c] H1.out.2.2 ?_
   simp only [Act.put,nAq,nBq,nCq]
   iterate 3
    refine plan_look rfl rfl (fun w0 hS => (by clear hS; go_simp; try rfl)) ?_
    simp only [Act.put,nAq,nBq,nCq]
   refine Law9.plan_gload_part (cur:=cur2) (t:=103) (fr:=(0,0)) rfl rfl 103 _ rfl g2 (k * 3) 3 rfl (fun w0 hS => by rw [hS]; exact row_drew H2.out.1) Tryz.underlying103 rfl sizeFn H2.out.2.1 #[.int .i64 a,.int .i64 b,.int .i64 c] H2.out.2.2 ?_
   simp only [Act.put,nAq,nBq,nCq]
   refine plan_look (v:=.bool false) rfl rfl (fun w0 hS => (by clear hS; go_simp; try rfl)) ?_
   simp only [Act.put,nAq,nBq,nCq]
   refine plan_end ?_; simp only [List.drop_succ_cons,List.drop_zero]
   go_wp2
   refine NoPanic.normal ?_
   go_wp2
   go_roundg (n - (k + 1))
   case measure => omega
   exact ⟨k + 1,by omega,rfl,by go_num,HA.out.drew⟩
 obtain rfl:k = n:=by omega
 have hkz:¬ (k:Int) < (k:Int):=by omega
 have HA:=Lib.hid hA
 clear hA
 go_wp2
 go_ret
 exact ⟨rfl,HA.out⟩
theorem SameI_ok {l:List Int} (h1:IntsAt w ao l) (h2:IntsAt w bo l) (hl:l.length = n) (hn:n ≤ 1000000) :
 Calls Tryz.prog 56 #[.slice ao n c1,.slice bo n c2] w fun e w' => e = .returned (.bool true) ∧ Adds w w':=by
 have H:=(hIq h1 (aIq h2 hl))
 have hn':(n:Int) ≤ 1000000:=by omega
 clear h1 h2 hl
 go_enter Tryz.func56,Tryz.ntmps56
 go_wp2
 go_loopg [5] n (fun g s5 wr => ∃ k:Nat,k ≤ n ∧ g = n - k ∧ s5 = .int .i64 k ∧ Adds w wr)
 case atStart => exact ⟨0,Nat.zero_le _,rfl,rfl,Ch.refl _ _⟩
 obtain ⟨k,hk,rfl,rfl,hA⟩:=hrel
 by_cases hkl:k < n
 · obtain ⟨x,hx⟩:∃ x,l[k]? = some x:=⟨_,List.getElem?_eq_getElem (by have:=H.out.2.2; omega)⟩
   obtain ⟨g1,o1,rfl,f1⟩:=H.out.1 k x hx
   obtain ⟨g2,o2,rfl,f2⟩:=H.out.2.1 k x hx
   have f1:=hA.cell f1 id
   have f2:=hA.cell f2 id
   have hkz:(k:Int) < (n:Int):=by omega
   have HA:=Lib.hid hA
   clear hA hx
   go_wp2
   refine wp_region_plan (fun w0 => w0 = (wr).drew) 9 [(0,false),(1,false),(2,false),(3,false),(4,false),(5,false),(6,false),(7,false),(8,false)] (by kernel_rfl) (by kernel_rfl) rfl ?_
   iterate 9 refine plan_look rfl rfl (fun w0 hS => (by subst hS; go_simp; try rfl)) ?_
   refine plan_end ?_
   simp only [List.drop_succ_cons,List.drop_zero,Act.put,List.setIfInBounds_toArray,List.set_cons_succ,List.set_cons_zero]
   go_wp2
   refine NoPanic.normal ?_
   go_wp2
   go_roundg (n - (k + 1))
   case measure => omega
   exact ⟨k + 1,by omega,rfl,by go_num,HA.out.drew⟩
 obtain rfl:k = n:=by omega
 have hkz:¬ (k:Int) < (k:Int):=by omega
 have HA:=Lib.hid hA
 clear hA
 go_wp2
 go_ret
 exact ⟨rfl,HA.out⟩
end
section
variable {σ : SlabSt Nd} {R : List Int} {w0 w : World} {s b : Nat} {F G : Nat → Prop} {ao : Option Addr}
def SharedRet (w w':World) (σ:SlabSt Nd) (R:List Int) (e:Ending):Prop := ∃ n:Nat,e = .returned (.tuple #[.int .i64 (n:Nat),.int .i64 (chk σ R)]) ∧ Adds w w' ∧ ((chk σ R ≠ 0 ∧ n = 0) ∨ (chk σ R = 0 ∧ ∃ k,Wanting σ R k.todo.length k ∧ n = (k.todo.filter fun x => decide (1 < k.cnt x)).length))
theorem Shared_any (h:At w s F σ) (GG:Good σ) (cap:Nat) (hR:IntsAt w ao R) (hl:R.length < 4611686018427387904) :
 Calls Tryz.prog 46 #[.pointer (some ⟨s,0,none⟩),.slice ao R.length cap] w fun e w' => SharedRet w w' σ R e:=by
 unfold SharedRet
 by_cases hc:chk σ R = 0
 · exact (Shared_good h GG cap hR hc).mono fun e w' ⟨k,he,hW,ha⟩ => ⟨_,by rw [he,hc],ha,.inr ⟨hc,k,hW,rfl⟩⟩
 exact (Shared_bad h cap hR hl hc).mono fun e w' ⟨he,ha⟩ => ⟨0,he,ha,.inl ⟨hc,rfl⟩⟩
theorem RShared_any (h:ROw w0 w b σ G) (GG:Good σ) (cap:Nat) (hR:IntsAt w ao R) (hl:R.length < 4611686018427387904) :
 Calls Tryz.prog 47 #[.pointer (some ⟨b,0,none⟩),.slice ao R.length cap] w fun e w' => SharedRet w w' σ R e:=by
 unfold SharedRet
 by_cases hc:chk σ R = 0
 · exact (RShared_good h GG cap hR hc).mono fun e w' ⟨k,he,hW,ha⟩ => ⟨_,by rw [he,hc],ha,.inr ⟨hc,k,hW,rfl⟩⟩
 exact (RShared_bad h GG cap hR hl hc).mono fun e w' ⟨he,ha⟩ => ⟨0,he,ha,.inl ⟨hc,rfl⟩⟩
def IsF (σ:SlabSt Nd) (R:List Int) (l:List (Int × Int × Int)):Prop:=(chk σ R ≠ 0 ∧ l = []) ∨ (chk σ R = 0 ∧ ∃ k,Wanting σ R k.todo.length k ∧ l = finds σ k.cnt)
theorem IsF.same {l1 l2:List (Int × Int × Int)} (h1:IsF σ R l1) (h2:IsF σ R l2):l1 = l2:=by
 rcases h1 with ⟨n1,rfl⟩ | ⟨z1,k1,W1,rfl⟩
 · rcases h2 with ⟨_,rfl⟩ | ⟨z2,_⟩
   · rfl
   exact absurd z2 n1
 rcases h2 with ⟨n2,_⟩ | ⟨_,k2,W2,rfl⟩
 · exact absurd z1 n2
 rw [(W1.same W2).2]
theorem IsF.len {l:List (Int × Int × Int)} (h:IsF σ R l) (GG:Good σ):l.length ≤ 65536:=by
 rcases h with ⟨_,rfl⟩ | ⟨_,k1,W1,rfl⟩
 · simp
 exact Nat.le_trans (findsL_len _ _ _) (handles_le GG)
def IsI (σ:SlabSt Nd) (R:List Int) (p:Wk → List Int) (l:List Int):Prop:=(chk σ R ≠ 0 ∧ l = []) ∨ (chk σ R = 0 ∧ ∃ k,Wanting σ R k.todo.length k ∧ l = p k)
theorem IsI.same {p1 p2:Wk → List Int} (hp:∀ k1 k2,Wanting σ R k1.todo.length k1 → Wanting σ R k2.todo.length k2 → p1 k1 = p2 k2 ∧ (p1 k1).length ≤ (handles σ).length) {l1 l2:List Int} (h1:IsI σ R p1 l1) (h2:IsI σ R p2 l2) (GG:Good σ):l1 = l2 ∧ l1.length ≤ 65536:=by
 rcases h1 with ⟨n1,rfl⟩ | ⟨z1,k1,W1,rfl⟩
 · rcases h2 with ⟨_,rfl⟩ | ⟨z2,_⟩
   · exact ⟨rfl,by simp⟩
   exact absurd z2 n1
 rcases h2 with ⟨n2,_⟩ | ⟨_,k2,W2,rfl⟩
 · exact absurd z1 n2
 obtain ⟨q1,q2⟩:=hp k1 k2 W1 W2
 exact ⟨q1,Nat.le_trans q2 (handles_le GG)⟩
end
theorem built_find:Tryz.prog.built 103 [(0,.int .i64 (-7))] = some #[.int .i64 (-7),.int .i64 0,.int .i64 0]:=by kernel_rfl
section
variable {w : World}
theorem calls_law (room:Int) {ao:Option Addr} {len:Nat} (cap:Nat) (ha:Law9.ActsAt w ao len) {ro:Option Addr} {R:List Int} (rcap:Nat) (hR:IntsAt w ro R) :
 Calls Tryz.prog 11 #[.int .i64 room,.slice ao len cap,.slice ro R.length rcap] w fun e w' => e = .returned (.bool true) ∧ Adds w w':=by
 have hL:=Large_ok room cap ha
 unfold LargeRet at hL
 have HL:=Lib.hid hL
 obtain ⟨rn,hrn⟩:∃ rn,rn = R.length:=⟨_,rfl⟩
 rw [← hrn]
 have HR:=(hIq hR hrn)
 clear hL ha hR hrn
 go_enter Tryz.func11,Tryz.ntmps11
 go_wp2_with fail
 refine HL.out.mono ?_; rintro e w1 ⟨B,rfl,rfl,hB⟩
 cases B with
 | true =>
  clear hB
  go_wp2
  go_ret
  exact ⟨rfl,Ch.refl _ _⟩
 | false =>
  by_cases hv:8 < len
  · have hvi:(8:Int) < (len:Int):=by omega
    clear hB
    go_wp2
    go_ret
    exact ⟨rfl,Ch.refl _ _⟩
  have hvi:¬ (8:Int) < (len:Int):=by omega
  by_cases hv2:70 < rn
  · have hvi2:(70:Int) < (rn:Int):=by omega
    clear hB
    go_wp2
    go_ret
    exact ⟨rfl,Ch.refl _ _⟩
  have hvi2:¬ (70:Int) < (rn:Int):=by omega
  have hrn70:rn ≤ 70:=by omega
  clear hv hv2
  obtain ⟨r1,r2,r3,hs⟩:=hB rfl
  obtain ⟨n,rfl⟩:∃ n:Nat,room = n:=⟨room.toNat,by omega⟩
  have hP:=Play_ok (w:=w) n (by omega) (by omega) cap hs r3
  unfold PlayRet at hP
  have HP:=Lib.hid hP
  clear hP hs r1 r2 r3 hB
  go_wp2_with fail
  refine HP.out.mono ?_; rintro e w2 ⟨c,s,bb,σ,root,L,A,rfl,S2,P2⟩
  obtain ⟨va,vc,hr,_⟩:=S2.row
  obtain ⟨F,hAt⟩:=S2.ow.at
  have hRo:=S2.row9
  have GG:=P2.roots.good
  have hI2:=HR.out.1.adds S2.world
  have lc:=row_lt hr
  obtain ⟨er,her⟩:∃ er,er = chk σ R:=⟨_,rfl⟩
  have hck:=fun w1 (a:Adds w2 w1) (ao:Option Addr) (cap:Nat) (hi:IntsAt w1 ao R) => Check_any (hAt.adds a) GG cap hi (by have:=HR.out.2; omega)
  have hrk:=fun w1 (a:Adds w2 w1) => RCheck_any (hRo.adds a) GG rcap (hI2.adds a) (by have:=HR.out.2; omega)
  have hre:=fun w1 (a:Adds w2 w1) (ao:Option Addr) (cap:Nat) (hi:IntsAt w1 ao R) => Reached_any (hAt.adds a) GG cap hi (by have:=HR.out.2; omega)
  have hrr:=fun w1 (a:Adds w2 w1) => RReached_any (hRo.adds a) GG rcap (hI2.adds a) (by have:=HR.out.2; omega)
  have hlo:=fun w1 (a:Adds w2 w1) (ao:Option Addr) (cap:Nat) (hi:IntsAt w1 ao R) => Lost_any (hAt.adds a) GG cap hi (by have:=HR.out.2; omega)
  have hrl:=fun w1 (a:Adds w2 w1) => RLost_any (hRo.adds a) GG rcap (hI2.adds a) (by have:=HR.out.2; omega)
  have hsh:=fun w1 (a:Adds w2 w1) (ao:Option Addr) (cap:Nat) (hi:IntsAt w1 ao R) => Shared_any (hAt.adds a) GG cap hi (by have:=HR.out.2; omega)
  have hrs:=fun w1 (a:Adds w2 w1) => RShared_any (hRo.adds a) GG rcap (hI2.adds a) (by have:=HR.out.2; omega)
  have hsm:=fun w1 (a:Adds w2 w1) => Same_ok (hAt.adds a) (hRo.adds a) GG
  unfold CheckRet at hck hrk
  unfold AuditRet at hre hrr hlo hrl
  unfold SharedRet at hsh hrs
  rw [← HR.out.2, ← her] at hck hrk hre hrr hlo hrl hsh hrs
  have H1:=(hIq hck hrk)
  have H2:=(hIq hre hrr)
  have H3:=(hIq hlo hrl)
  have H4:=(hIq hsh (aIq hrs hsm))
  have HC:=(hIq hr (aIq S2.world (aIq GG (aIq her hI2))))
  clear S2 P2 hr hAt hRo GG HP hck hrk hre hrr hlo hrl hsh hrs hsm her hI2
  have HCS:RowKit.Hid (∀ w1,Adds w2 w1 → w1.cell? ⟨c,0,none⟩ = some (.pointer (some ⟨s,0,none⟩)) ∧ w1.cell? ⟨c,1,none⟩ = some (.pointer (some ⟨bb,0,none⟩))):=Lib.hid (fun w1 a => ⟨row_cell (a.row HC.out.1 id) (i:=0) rfl,row_cell (a.row HC.out.1 id) (i:=1) rfl⟩)
  go_upto_region 7 with (first
   | fail
   | (at_builtin; refine wpList_append_ints rfl _ _ rfl (.slice (some ⟨w2.heap.size,0,none⟩) 0 0) 0 [] rfl (empty_row w2) ro rn rcap R rfl (HC.out.2.2.2.2.adds ((Ch.refl _ _).alloc _)) HR.out.2.symm (by omega) ?_; intro v' w3 own' grow' loc'; have a3:Adds w2 w3:=((Ch.refl _ _).alloc _).grown grow' (fun k hk => .inr (by cases hk; exact Nat.le_refl _)); obtain ⟨qo,qc,rfl⟩:=owns_form own'; rw [List.nil_append] at own'; have hI3:=(IntsAt.own own').1; rw [Nat.zero_add]; have A3:=(hIq a3 hI3); clear own' grow' loc' a3 hI3))
  obtain ⟨c0,c1⟩:=HCS.out _ A3.out.1
  have h4:=H1.out.1 _ A3.out.1 qo qc A3.out.2
  have H5:=Lib.hid h4
  clear h4
  go_wp2_with fail
  refine H5.out.mono ?_; rintro e w4 ⟨qa,ca,la,rfl,owa,a4,isa⟩
  obtain ⟨na,hna⟩:∃ n,n = la.length:=⟨_,rfl⟩
  have ia:IsF σ R la:=by unfold IsF; rw [← HC.out.2.2.2.1]; exact isa
  have hna6:na ≤ 65536:=by rw [hna]; exact ia.len HC.out.2.2.1
  rw [← hna] at owa ⊢
  have A4:=Lib.hid (A3.out.1.trans a4 (fun _ => fEq))
  have HA:=(hIq owa (aIq a4 (aIq ia hna)))
  obtain ⟨c0,c1⟩:=HCS.out _ A4.out
  have h5:=H1.out.1 _ A4.out qo qc (A3.out.2.adds a4)
  have H6:=Lib.hid h5
  clear h5 owa a4 isa ia hna H5
  go_wp2_with fail
  refine H6.out.mono ?_; rintro e w5 ⟨qb,cb,lb,rfl,owb,a5,isb⟩
  have ib:IsF σ R lb:=by unfold IsF; rw [← HC.out.2.2.2.1]; exact isb
  obtain rfl:=HA.out.2.2.1.same ib
  rw [← HA.out.2.2.2] at owb ⊢
  have A5:=Lib.hid (A4.out.trans a5 (fun _ => fEq))
  have HB:=(hIq owb a5)
  obtain ⟨c0,c1⟩:=HCS.out _ A5.out
  have h6:=H1.out.2 _ A5.out
  have H7:=Lib.hid h6
  clear h6 owb a5 isb ib H6
  go_wp2_with fail
  refine H7.out.mono ?_; rintro e w6 ⟨qw,cw,lw,rfl,oww,a6,isw⟩
  have iw:IsF σ R lw:=by unfold IsF; rw [← HC.out.2.2.2.1]; exact isw
  obtain rfl:=HA.out.2.2.1.same iw
  rw [← HA.out.2.2.2] at oww ⊢
  have A6:=Lib.hid (A5.out.trans a6 (fun _ => fEq))
  have RA:RowKit.Hid (RowF w6 qa na ca la):=Lib.hid ⟨((HB.out.2.trans a6 (fun _ => fEq)).owns HA.out.1 (fun _ _ h => h)).base (fun _ _ => Nat.zero_le _),HA.out.2.2.2.symm⟩
  have RB:RowKit.Hid (RowF w6 qb na cb la):=Lib.hid ⟨(a6.owns HB.out.1 (fun _ _ h => h)).base (fun _ _ => Nat.zero_le _),HA.out.2.2.2.symm⟩
  have RW:RowKit.Hid (RowF w6 qw na cw la):=Lib.hid ⟨oww.base (fun _ _ => Nat.zero_le _),HA.out.2.2.2.symm⟩
  have HW:=(hIq oww a6)
  clear oww a6 isw iw H7
  go_wp2_with fail
  refine (findings_ok RA.out RW.out hna6).mono ?_; rintro e w7 ⟨rfl,a7⟩
  have A7:=Lib.hid a7
  clear a7
  go_wp2_with fail
  refine (findings_ok (RB.out.adds A7.out) (RW.out.adds A7.out) hna6).mono ?_; rintro e w8 ⟨rfl,a8⟩
  have A8:=Lib.hid (A7.out.trans a8 (fun _ => fEq))
  clear a8 A7
  have hbf:=built_find
  have HBF:=Lib.hid hbf
  clear hbf c0 c1
  go_wp2
  go_loopg [16] na (fun g s16 wr => ∃ k:Nat,k ≤ na ∧ g = na - k ∧ s16 = .int .i64 k ∧ Ch (fun j => (Value.slice qa na ca).ownBlock = some j) w8 wr ∧ (0 < na → ∃ g cur,qa = some ⟨g,0,none⟩ ∧ wr.heap[g]? = some (.cells cur 103 (0,0)) ∧ na * 3 ≤ cur.size))
  case atStart =>
   refine ⟨0,Nat.zero_le _,rfl,rfl,Ch.refl _ _,fun h0 => ?_⟩
   obtain ⟨g,cap',cur,e,hg,h1,h2,h3,h4⟩:=owns_block RA.out.1 h0
   injection e with e1 _ _
   exact ⟨g,cur,e1,A8.out.row hg id,by rw [h3]; exact Nat.mul_le_mul_right _ h1⟩
  obtain ⟨k,hk,rfl,rfl,hch,hrw⟩:=hrel
  by_cases hkl:k < na
  · obtain ⟨g0,cur,rfl,hg,hsz⟩:=hrw (by omega)
    have hfit:k * 3 + 3 ≤ cur.size:=by omega
    have hnew:(splice cur.toList (k * 3) [.int .i64 (-7),.int .i64 0,.int .i64 0]).toArray.size = cur.size:=by
     rw [List.size_toArray,splice_length _ _ _ (by simp; omega),Array.length_toList]
    obtain ⟨new,hn⟩:∃ new,new = (splice cur.toList (k * 3) [.int .i64 (-7),.int .i64 0,.int .i64 0]).toArray:=⟨_,rfl⟩
    rw [← hn] at hnew
    have HG:=(hIq hg (aIq hfit (aIq hnew (aIq hn (aIq hch hsz)))))
    have hkz:(k:Int) < (na:Int):=by omega
    clear hrw hg hfit hnew hn hch hsz
    go_wp2_with (first
     | fail
     | ((with_reducible show zOq (.build 103 _)); refine wpList_build_one rfl 103 0 _ rfl (.int .i64 (-7)) rfl #[.int .i64 (-7),.int .i64 0,.int .i64 0] HBF.out ?_)
     | ((with_reducible show zOq (.store 103 _ _)); refine wpList_store_part rfl 103 _ _ rfl g0 (k * 3) #[.int .i64 (-7),.int .i64 0,.int .i64 0] rfl rfl HG.out.1 sizeFn HG.out.2.1 (by simp [Value.oneCell']) new HG.out.2.2.2.1.symm ?_))
    go_roundg (na - (k + 1))
    case measure => omega
    exact ⟨k + 1,by omega,rfl,by go_num,HG.out.2.2.2.2.1.setRow (.inl rfl) _,fun _ => ⟨g0,new,rfl,row_setRow_same HG.out.1 _,by rw [HG.out.2.2.1]; exact HG.out.2.2.2.2.2⟩⟩
  obtain rfl:k = na:=by omega
  have hkz:¬ (k:Int) < (k:Int):=by omega
  have hlo:∀ j,(Value.slice qa k ca).ownBlock = some j → w3.heap.size ≤ j ∧ j < w4.heap.size:=fun j hj => HA.out.1.lt j hj
  have h38:Adds w3 w8:=((HA.out.2.1.trans HB.out.2 (fun _ => fEq)).trans HW.out.2 (fun _ => fEq)).trans A8.out (fun _ => fEq)
  have A39:RowKit.Hid (Adds w3 wr):=Lib.hid (h38.trans hch (fun j hj => .inr (hlo j hj).1))
  have A29:=Lib.hid (A3.out.1.trans A39.out (fun _ => fEq))
  have RB9:RowKit.Hid (RowF wr qb k cb la):=Lib.hid ⟨(hch.owns ((HW.out.2.trans A8.out (fun _ => fEq)).owns HB.out.1 (fun _ _ h => h)) (fun j hj hf => by have:=(HB.out.1.lt j hj).1; have:=(hlo j hf).2; omega)).base (fun _ _ => Nat.zero_le _),HA.out.2.2.2.symm⟩
  have RW9:RowKit.Hid (RowF wr qw k cw la):=Lib.hid ⟨(hch.owns (A8.out.owns HW.out.1 (fun _ _ h => h)) (fun j hj hf => by have:=(HW.out.1.lt j hj).1; have:=(hlo j hf).2; have:=HB.out.2.size; omega)).base (fun _ _ => Nat.zero_le _),HA.out.2.2.2.symm⟩
  have hI9:=Lib.hid (A3.out.2.adds A39.out)
  clear hrw hch hlo h38 hkl hk RA RB RW
  obtain ⟨c0,c1⟩:=HCS.out _ A29.out
  have h10:=Lib.hid (H2.out.1 _ A29.out qo qc hI9.out)
  go_wp2_with fail
  refine h10.out.mono ?_; rintro e w10 ⟨ql,cl,ll,rfl,owl,a10,isl⟩
  have B10:=Lib.hid (A29.out.trans a10 (fun _ => fEq))
  obtain ⟨c0,c1⟩:=HCS.out _ B10.out
  have h11:=Lib.hid (H2.out.2 _ B10.out)
  have HL10:=(hIq owl (aIq a10 isl))
  obtain ⟨nl,hnl⟩:∃ n,n = ll.length:=⟨_,rfl⟩
  rw [← hnl]
  have HNL:=Lib.hid hnl
  clear owl a10 isl h10 hnl
  go_wp2_with fail
  refine h11.out.mono ?_; rintro e w11 ⟨qm,cm,lm,rfl,owm,a11,ism⟩
  obtain ⟨rfl,hll⟩:=IsI.same (p1:=fun k => k.todo.mergeSort leI) (p2:=fun k => reachI k.todo (handles σ)) (fun k1 k2 W1 W2 => reached_pick W1 W2) (by unfold IsI; rw [← HC.out.2.2.2.1]; exact HL10.out.2.2) (by unfold IsI; rw [← HC.out.2.2.2.1]; exact ism) HC.out.2.2.1
  rw [← HNL.out] at hll ⊢
  have HL11:RowKit.Hid (IntsAt w11 ql ll ∧ IntsAt w11 qm ll):=Lib.hid ⟨(IntsAt.own HL10.out.1).1.adds a11,(IntsAt.own owm).1⟩
  have B11:=(hIq (B10.out.trans a11 (fun _ => fEq)) (HL10.out.2.1.trans a11 (fun _ => fEq)))
  obtain ⟨c0,c1⟩:=HCS.out _ B11.out.1
  have h12:=Lib.hid (H3.out.1 _ B11.out.1 qo qc (hI9.out.adds B11.out.2))
  clear owm a11 ism h11 HL10
  go_wp2_with fail
  refine h12.out.mono ?_; rintro e w12 ⟨q2,c2,l2,rfl,ow2,a12,is2⟩
  have B12:=(hIq (B11.out.1.trans a12 (fun _ => fEq)) (B11.out.2.trans a12 (fun _ => fEq)))
  have HL12:RowKit.Hid (IntsAt w12 ql ll ∧ IntsAt w12 qm ll):=Lib.hid ⟨HL11.out.1.adds a12,HL11.out.2.adds a12⟩
  obtain ⟨c0,c1⟩:=HCS.out _ B12.out.1
  have h13:=Lib.hid (H3.out.2 _ B12.out.1)
  have HO12:=(hIq ow2 is2)
  obtain ⟨n2,hn2⟩:∃ n,n = l2.length:=⟨_,rfl⟩
  rw [← hn2]
  have HN2:=Lib.hid hn2
  clear ow2 a12 is2 h12 HL11 hn2
  go_wp2_with fail
  refine h13.out.mono ?_; rintro e w13 ⟨q3,c3,l3,rfl,ow3,a13,is3⟩
  obtain ⟨rfl,hl2⟩:=IsI.same (p1:=fun k => lostL k.cnt (handles σ)) (p2:=fun k => lostL k.cnt (handles σ)) (fun k1 k2 W1 W2 => lost_pick W1 W2) (by unfold IsI; rw [← HC.out.2.2.2.1]; exact HO12.out.2) (by unfold IsI; rw [← HC.out.2.2.2.1]; exact is3) HC.out.2.2.1
  rw [← HN2.out] at hl2 ⊢
  have B13:=(hIq (B12.out.1.trans a13 (fun _ => fEq)) (B12.out.2.trans a13 (fun _ => fEq)))
  have HL13:RowKit.Hid ((IntsAt w13 ql ll ∧ IntsAt w13 qm ll) ∧ IntsAt w13 q2 l2 ∧ IntsAt w13 q3 l2):=Lib.hid ⟨⟨HL12.out.1.adds a13,HL12.out.2.adds a13⟩,(IntsAt.own HO12.out.1).1.adds a13,(IntsAt.own ow3).1⟩
  obtain ⟨c0,c1⟩:=HCS.out _ B13.out.1
  have h14:=Lib.hid (H4.out.1 _ B13.out.1 qo qc (hI9.out.adds B13.out.2))
  clear ow3 a13 is3 h13 HL12 HO12
  go_wp2_with fail
  refine h14.out.mono ?_; rintro e w14 ⟨sn,rfl,a14,is4⟩
  have B14:=(hIq (B13.out.1.trans a14 (fun _ => fEq)) (B13.out.2.trans a14 (fun _ => fEq)))
  have C14:=(hIq a14 is4)
  obtain ⟨c0,c1⟩:=HCS.out _ B14.out.1
  have h15:=Lib.hid (H4.out.2.1 _ B14.out.1)
  clear a14 is4 h14
  go_wp2_with fail
  refine h15.out.mono ?_; rintro e w15 ⟨sm,rfl,a15,is5⟩
  have hss:sn = sm:=by
   rcases C14.out.2 with ⟨n1,e1⟩ | ⟨z1,k1,W1,e1⟩
   · rcases is5 with ⟨_,e2⟩ | ⟨z2,_⟩
     · rw [e1,e2]
     exact absurd z2 n1
   rcases is5 with ⟨n2,_⟩ | ⟨_,k2,W2,e2⟩
   · exact absurd z1 n2
   rw [e1,e2]; exact shared_pick W1 W2
  subst hss
  have B15:=(hIq (B14.out.1.trans a15 (fun _ => fEq)) (B14.out.2.trans a15 (fun _ => fEq)))
  have a135:=C14.out.1.trans a15 (fun _ => fEq)
  have HL15:RowKit.Hid ((IntsAt w15 ql ll ∧ IntsAt w15 qm ll) ∧ IntsAt w15 q2 l2 ∧ IntsAt w15 q3 l2):=Lib.hid ⟨⟨HL13.out.1.1.adds a135,HL13.out.1.2.adds a135⟩,HL13.out.2.1.adds a135,HL13.out.2.2.adds a135⟩
  clear a15 is5 h15 a135 HL13 C14
  go_wp2_with fail
  refine (findings_ok (RB9.out.adds B15.out.2) (RW9.out.adds B15.out.2) hna6).mono ?_; rintro e w16 ⟨rfl,a16⟩
  have B16:=Lib.hid a16
  clear a16
  go_wp2_with fail
  refine (SameI_ok (HL15.out.1.1.adds B16.out) (HL15.out.1.2.adds B16.out) HNL.out.symm (by omega)).mono ?_; rintro e w17 ⟨rfl,a17⟩
  have B17:=Lib.hid (B16.out.trans a17 (fun _ => fEq))
  clear a17
  go_wp2_with fail
  refine (SameI_ok (HL15.out.2.1.adds B17.out) (HL15.out.2.2.adds B17.out) HN2.out.symm (by omega)).mono ?_; rintro e w18 ⟨rfl,a18⟩
  have B18:=Lib.hid (B15.out.1.trans (B17.out.trans a18 (fun _ => fEq)) (fun _ => fEq))
  have HI18:RowKit.Hid (IntsAt w18.drew qo R ∧ IntsAt w18.drew ro R):=Lib.hid ⟨(hI9.out.adds (B15.out.2.trans (B17.out.trans a18 (fun _ => fEq)) (fun _ => fEq))).adds (Ch.refl (fun _ => False) w18).drew,(HC.out.2.2.2.2.adds B18.out).adds (Ch.refl (fun _ => False) w18).drew⟩
  clear a18 c0 c1
  go_wp2
  refine wp_region_plan (fun wz => Adds w2 wz) 15 [(0,false),(1,false),(2,true),(3,false),(4,false),(5,false),(6,false),(7,false),(8,false),(9,false),(10,false),(11,false),(12,true),(13,false),(14,false)] (by kernel_rfl) (by kernel_rfl) ?_ ?_
  · exact B18.out.drew
  iterate 2
   refine plan_look rfl rfl (fun w0 hS => (by clear hS; go_simp; try rfl)) ?_
   simp only [Act.put,nAq,nBq,nCq]
  refine plan_do rfl ?_
  go_wp2_with fail
  refine (SameI_ok HI18.out.1 HI18.out.2 HR.out.2.symm (by omega)).mono ?_; rintro e w19 ⟨rfl,a19⟩
  have H19:=Lib.hid (B18.out.drew.trans a19 (fun _ => fEq))
  clear a19
  dsimp only
  go_step
  refine wpList_nil ?_
  change _ ∧ _
  refine ⟨H19.out,?_⟩
  refine plan_look (v:=.bool true) rfl rfl (fun w0 hS => (by clear hS; go_simp; try rfl)) ?_
  simp only [Act.put,nAq,nBq,nCq]
  iterate 3
   refine plan_look rfl rfl (fun w0 hS => (by clear hS; go_simp; try rfl)) ?_
   simp only [Act.put,nAq,nBq,nCq]
  refine plan_look (v:=.pointer (some ⟨s,0,none⟩)) rfl rfl (fun w0 hS => (by have d1:=(HCS.out w0 hS).1; clear hS; go_simp; try rfl)) ?_
  simp only [Act.put,nAq,nBq,nCq]
  iterate 3
   refine plan_look rfl rfl (fun w0 hS => (by clear hS; go_simp; try rfl)) ?_
   simp only [Act.put,nAq,nBq,nCq]
  refine plan_look (v:=.pointer (some ⟨bb,0,none⟩)) rfl rfl (fun w0 hS => (by have d1:=(HCS.out w0 hS).2; clear hS; go_simp; try rfl)) ?_
  simp only [Act.put,nAq,nBq,nCq]
  refine plan_do rfl ?_
  go_wp2_with fail
  refine (H4.out.2.2 _ H19.out).mono ?_; rintro e w20 ⟨rfl,a20⟩
  have H20:=Lib.hid (H19.out.trans a20 (fun _ => fEq))
  clear a20
  dsimp only
  go_step
  refine wpList_nil ?_
  change _ ∧ _
  refine ⟨H20.out,?_⟩
  iterate 2
   refine plan_look rfl rfl (fun w0 hS => (by clear hS; go_simp; try rfl)) ?_
   simp only [Act.put,nAq,nBq,nCq]
  refine plan_end ?_; simp only [List.drop_succ_cons,List.drop_zero]
  go_wp2
  refine NoPanic.normal ?_
  go_wp2
  go_ret
  exact ⟨rfl,HC.out.2.1.trans H20.out (fun _ => fEq)⟩
end
end Go.Proofs.YtmeglndnkdgkoaaGreat.Store
namespace Go.Proofs.YtmeglndnkdgkoaaGreat
open Go.RowKit Go.Proofs.YtmeglndnkdgkoaaGreat.ShaW Go.Proofs.YtmeglndnkdgkoaaGreat.Path Go.Proofs.YtmeglndnkdgkoaaGreat.Store Go.Proofs.YtmeglndnkdgkoaaGreat.Law9 Go.Deep Go.ChangeShapes Go.WideShapes Go.ChangeAt
def InInts (W:World) (v:Value):Prop := ∃ ao l cap,v = .slice ao (List.length l) cap ∧ IntsAt W ao l ∧ (∀ x ∈ l,(Lit.int .i64 x).wf = true) ∧ l.length ≤ cap ∧ cap ≤ maxLen
section
variable {H : Type} {enc : TypeId × Value → H} {W : World} {base : Nat} {v : Value} {d : DataW H} {p : List MemPlace}
theorem in_ints (hv:Value.okWide Tryz.prog W .any base 43 v)
 (h:DataW.Trod enc Tryz.prog W 0 (fun _ => true) true 43 v d p):InInts W v:=by
 obtain ⟨ao,len,cap,rfl⟩:=okWide_slice Tryz.underlying43 hv
 obtain ⟨m,hm⟩:=h
 rcases open_ints Tryz.underlying43 Tryz.underlying3 (by kernel_rfl) hm with ⟨h0,_⟩ | ⟨a,l,c,zs,hcs,hb,hl,hc,hzl,hx,hcell,hwf⟩
 · simp only [Value.cells,List.cons.injEq,Value.slice.injEq,and_true] at h0
   obtain ⟨rfl,rfl,rfl⟩:=h0
   exact ⟨_,[],_,rfl,IntsAt.nil _ _,(fun x hx => by cases hx),Nat.le_refl _,by unfold maxLen; omega⟩
 simp only [Value.cells,List.cons.injEq,Value.slice.injEq,and_true] at hcs
 obtain ⟨rfl,rfl,rfl⟩:=hcs
 simp only [if_true] at hzl
 refine ⟨some a,zs.take len,cap,by simp [hzl,Nat.min_eq_left hl],fun i x hi => ?_,fun x hx => hwf x (List.mem_of_mem_take hx),by simp [hzl]; omega,hc⟩
 have hil:i < len:=by have:=(List.getElem?_eq_some_iff.1 hi).1; simp at this; omega
 rw [List.getElem?_take_of_lt hil] at hi
 have hlt:i < zs.length:=(List.getElem?_eq_some_iff.1 hi).1
 obtain ⟨g,off,spot⟩:=a
 cases spot with
 | none =>
  refine ⟨g,off,rfl,?_⟩
  have h1:=hcell i hlt
  rw [add_plain] at h1
  rw [h1]
  simp [List.getD,hi]
 | some s =>
  exfalso
  have h1:=hcell 0 (by omega)
  rw [cell_spot _ _ (by simp [Addr.add])] at h1
  cases h1
end
def InPath (W:World) (v:Value):Prop := ∃ k:List UInt8,k.length = 32 ∧ v = .agg (brow k)
def InBytes (W:World) (v:Value):Prop := ∃ bs:List UInt8,Bytes W v bs ∧ (bs ≠ [] → ∀ k,v.ownBlock = some k → k < W.heap.size)
def InPairs (W:World) (v:Value):Prop := ∃ ao l cap,v = .slice ao (List.length l) cap ∧ PairsAt W ao l ∧ l.length ≤ cap

end Go.Proofs.YtmeglndnkdgkoaaGreat

/- Proved contracts and plain laws of the layers below, in one text. -/
import Derived.Test.YtmeglndnkdgkoaaGreatQd35
set_option maxHeartbeats 3200000
set_option maxRecDepth 100000
set_option linter.unusedVariables false
namespace Go.Proofs.YtmeglndnkdgkoaaGreat.Store
open Go Go.RowKit Go.Proofs.YtmeglndnkdgkoaaGreat Go.Proofs.YtmeglndnkdgkoaaGreat.ShaW Go.Proofs.YtmeglndnkdgkoaaGreat.Path Go.Proofs.YtmeglndnkdgkoaaGreat.Law9
structure Sce (σ:SlabSt Nd) (root:Int) (L:Ents) (A:List (Int × Ents)) (n i:Nat):Prop where
 roots:Roots σ ((root,L) :: A)
 nz:∀ p ∈ A,p.1 ≠ 0
 len:A.length ≤ 9
 tot:total σ ≤ 601 * i
 room:σ.room = n
theorem Sce.next {σ:SlabSt Nd} {root:Int} {L:Ents} {A:List (Int × Ents)} {n i:Nat} (h:Sce σ root L A n i):Sce σ root L A n (i + 1):=⟨h.roots,h.nz,h.len,by have:=h.tot; omega,h.room⟩
def firsts (A:List (Int × Ents)):List Int:=A.map Prod.fst
def DoRet (w0 w':World) (c s b n i:Nat) (G:Nat → Prop) (e:Ending):Prop :=
 e = .returned (.bool true) ∧ ∃ (σ:SlabSt Nd) (root:Int) (L:Ents) (A:List (Int × Ents)),ScAt w0 w' c s b σ σ root (firsts A) G ∧ Sce σ root L A n (i + 1)
theorem Act9.at_kind {x:Act9}:x.cells[0]? = some (.int .i64 x.kind):=rfl
theorem PutTo.same {σ σ':SlabSt Nd} {r x:Int} {key bs:List UInt8} (h:PutTo σ r key bs x σ') (he:putErr σ r bs ≠ 0):x = 0 ∧ σ' = σ:=by
 rcases h with ⟨_,h1,h2⟩ | ⟨h0,_⟩
 · exact ⟨h1,h2⟩
 exact absurd h0 he
section
variable {w0 w w' : World} {c s b n i : Nat} {σ : SlabSt Nd} {root : Int} {L : Ents} {A : List (Int × Ents)} {G : Nat → Prop}
theorem Do_other (h:ScAt w0 w c s b σ σ root (firsts A) G) (P:Sce σ root L A n i) (x:Act9) (hx:x.Good w0) (hk:¬ x.kind = 0 ∧ ¬ x.kind = 1 ∧ ¬ x.kind = 2 ∧ ¬ x.kind = 4 ∧ ¬ x.kind = 5 ∧ ¬ x.kind = 6) :
 Calls Tryz.prog 77 #[.pointer (some ⟨c,0,none⟩),.agg x.cells] w fun e w' => DoRet w0 w' c s b n i G e:=by
 unfold DoRet
 have q0:=Act9.at_kind (x:=x)
 obtain ⟨X,hX⟩:∃ X,X = x.cells:=⟨_,rfl⟩
 obtain ⟨k,hkk⟩:∃ k,k = x.kind:=⟨_,rfl⟩
 rw [← hX, ← hkk] at q0
 rw [← hX]
 rw [← hkk] at hk
 obtain ⟨k0,k1,k2,k4,k5,k6⟩:=hk
 have b0:(k == 0) = false:=by simpa using k0
 have b1:(k == 1) = false:=by simpa using k1
 have b2:(k == 2) = false:=by simpa using k2
 have b4:(k == 4) = false:=by simpa using k4
 have b5:(k == 5) = false:=by simpa using k5
 have b6:(k == 6) = false:=by simpa using k6
 have a0:Adds w (w.alloc (.cells X 47)):=(Ch.refl (fun _ => False) w).alloc _
 have HS:=(hIq (h.adds a0) P)
 have ck:=row_cell (heap_alloc_new w (.cells X 47)) q0
 clear h P q0 hX hkk a0
 go_enter Tryz.func77,Tryz.ntmps77
 go_wp2
 go_ret
 exact ⟨rfl,_,_,_,_,HS.out.1,HS.out.2.next⟩
theorem Do_cost (h:ScAt w0 w c s b σ σ root (firsts A) G) (P:Sce σ root L A n i) (x:Act9) (hx:x.Good w0) (hk:x.kind = 4) :
 Calls Tryz.prog 77 #[.pointer (some ⟨c,0,none⟩),.agg x.cells] w fun e w' => DoRet w0 w' c s b n i G e:=by
 unfold DoRet
 have q0:=Act9.at_kind (x:=x)
 have qs:=Act9.size hx.key
 have a0:Adds w (w.alloc (.cells x.cells 47)):=(Ch.refl (fun _ => False) w).alloc _
 have hc:=fun w1 (a:Adds w w1) => cost_scene (h.adds a) P.roots.good root x (hx.keep (h.world.trans a (fun _ => fEq)) (fun _ => fEq))
 obtain ⟨X,hX⟩:∃ X,X = x.cells:=⟨_,rfl⟩
 rw [hk, ← hX] at q0
 rw [← hX] at qs a0 hc
 rw [← hX]
 obtain ⟨aa,ac,hr,_⟩:=h.row
 have HS:=(hIq h P)
 have HC:=Lib.hid hc
 have HX:=Lib.hid qs
 have H0:=(hIq (row_alloc hr (.cells X 47)) (aIq (heap_alloc_new w (.cells X 47)) a0))
 have ck:=row_cell (heap_alloc_new w (.cells X 47)) q0
 clear h P q0 qs hX hk hx a0 hc hr
 go_enter Tryz.func77,Tryz.ntmps77
 go_wp2
 refine wp_region_plan (fun wz => (∃ va,wz.heap[c]? = some (.cells #[.pointer (some ⟨s,0,none⟩),.pointer (some ⟨b,0,none⟩),.int .i64 root,va] 45 (0,0))) ∧ wz.heap[w.heap.size]? = some (.cells X 47 (0,0))) 7 [(0,false),(1,false),(2,false),(3,false),(4,false),(5,false),(6,true)] (by kernel_rfl) (by kernel_rfl) ?_ ?_
 · exact ⟨⟨_,row_drew H0.out.1⟩,row_drew H0.out.2.1⟩
 iterate 4
  refine plan_look rfl rfl (fun w0 hS => (by clear hS; go_simp; try rfl)) ?_
  simp only [Act.put,nAq,nBq,nCq]
 refine plan_look (v:=.int .i64 root) rfl rfl (fun w0 hS => (by obtain ⟨⟨va,hva⟩,_⟩:=hS; have c1:=row_cell hva (i:=2) rfl; clear hva; go_simp; try rfl)) ?_
 simp only [Act.put,nAq,nBq,nCq]
 refine plan_load_part (cur:=X) (t:=47) (fr:=(0,0)) rfl rfl 47 (.tmp 3) rfl w.heap.size 0 35 rfl (fun w0 hS => hS.2) Tryz.underlying47 rfl sizeAct9 (by rw [HX.out]; omega) X (by simp [← HX.out]) ?_
 simp only [Act.put,nAq,nBq,nCq]
 refine plan_do rfl ?_
 go_wp2_with fail
 refine (HC.out _ H0.out.2.2.drew).mono ?_; rintro e w2 ⟨rfl,a2⟩
 have H2:=(hIq (a2.row (row_drew H0.out.1) id) (aIq (a2.row (row_drew H0.out.2.1) id) (H0.out.2.2.drew.trans a2 (fun _ => fEq))))
 clear a2
 dsimp only
 go_step
 refine wpList_nil ?_
 change _ ∧ _
 refine ⟨⟨⟨_,H2.out.1⟩,H2.out.2.1⟩,?_⟩
 refine plan_end ?_; simp only [List.drop_succ_cons,List.drop_zero]
 go_wp2
 refine NoPanic.normal ?_
 go_wp2
 go_ret
 exact ⟨rfl,_,_,_,_,HS.out.1.adds H2.out.2.2,HS.out.2.next⟩
theorem Do_any (h:ScAt w0 w c s b σ σ root (firsts A) G) (P:Sce σ root L A n i) (x:Act9) (hx:x.Good w0) (hk:x.kind = 6) :
 Calls Tryz.prog 77 #[.pointer (some ⟨c,0,none⟩),.agg x.cells] w fun e w' => DoRet w0 w' c s b n i G e:=by
 unfold DoRet
 have q0:=Act9.at_kind (x:=x)
 have qh:=Act9.at_h hx.key
 have qs:=Act9.size hx.key
 have a0:Adds w (w.alloc (.cells x.cells 47)):=(Ch.refl (fun _ => False) w).alloc _
 have hc:=fun w1 (a:Adds w w1) => cost_scene (h.adds a) P.roots.good x.h x (hx.keep (h.world.trans a (fun _ => fEq)) (fun _ => fEq))
 obtain ⟨X,hX⟩:∃ X,X = x.cells:=⟨_,rfl⟩
 obtain ⟨xh,hxh⟩:∃ xh,xh = x.h:=⟨_,rfl⟩
 rw [hk, ← hX] at q0
 rw [← hX, ← hxh] at qh hc
 rw [← hX] at qs a0
 rw [← hX]
 have HS:=(hIq h P)
 have HC:=Lib.hid (hc _ a0)
 have HX:=Lib.hid qs
 have HA:=Lib.hid a0
 have H0:=Lib.hid (heap_alloc_new w (.cells X 47))
 have ck:=row_cell (heap_alloc_new w (.cells X 47)) q0
 have ch:=row_cell (heap_alloc_new w (.cells X 47)) qh
 clear h P q0 qh qs hX hk hx a0 hc hxh
 go_enter Tryz.func77,Tryz.ntmps77
 go_wp2_with (first
  | fail
  | ((with_reducible show zOq (.load 47 _)); refine wpList_load_part rfl 47 _ rfl w.heap.size 0 rfl H0.out Tryz.underlying47 rfl sizeAct9 (by rw [HX.out]; omega) X (by simp [← HX.out]) ?_))
 refine HC.out.mono ?_; rintro e w2 ⟨rfl,a2⟩
 have H2:=Lib.hid (HA.out.trans a2 (fun _ => fEq))
 clear a2
 go_wp2
 go_ret
 exact ⟨rfl,_,_,_,_,HS.out.1.adds H2.out,HS.out.2.next⟩
end
end Go.Proofs.YtmeglndnkdgkoaaGreat.Store
namespace Go.Proofs.YtmeglndnkdgkoaaGreat.Store
open Go Go.RowKit Go.Proofs.YtmeglndnkdgkoaaGreat Go.Proofs.YtmeglndnkdgkoaaGreat.ShaW Go.Proofs.YtmeglndnkdgkoaaGreat.Path
def dropErr (σ:SlabSt Nd) (r:Int):Int:=if atHand σ r ≠ 0 then atHand σ r else if fitsJ σ 1 = false then 9 else 0
def DropTo (σ:SlabSt Nd) (r:Int) (key:List UInt8) (x:Int) (g:Bool) (σ':SlabSt Nd):Prop :=
 (dropErr σ r ≠ 0 ∧ x = 0 ∧ g = false ∧ σ' = σ) ∨ (dropErr σ r = 0 ∧ ∃ l e1,On (sk σ) key r 0 l e1 ∧ ((thereS σ key e1 = false ∧ x = r ∧ g = false ∧ σ' = σ) ∨ (thereS σ key e1 = true ∧ x = (delS σ r key l).1 ∧ g = true ∧ σ' = (delS σ r key l).2)))
def DCostTo (σ:SlabSt Nd) (r:Int) (key:List UInt8) (x:Int):Prop :=
 (atHand σ r ≠ 0 ∧ x = 0) ∨ (atHand σ r = 0 ∧ ∃ l e1,On (sk σ) key r 0 l e1 ∧ x = if thereS σ key e1 = true then (lookL σ key l l.length 0).2.1 + 1 else 0)
section
variable {w0 w w' : World} {s b : Nat} {σ σ' : SlabSt Nd} {G : Nat → Prop} {r x : Int} {key : List UInt8} {g : Bool}
theorem dropErr_zero (h:dropErr σ r = 0):atHand σ r = 0 ∧ fitsJ σ 1 = true:=by
 unfold dropErr at h
 by_cases h2:atHand σ r = 0
 · rw [if_neg (by simpa using h2)] at h
   refine ⟨h2,?_⟩
   cases h3:fitsJ σ 1 with
   | true => rfl
   | false => rw [if_pos h3] at h; exact absurd h (by decide)
 rw [if_pos h2] at h; exact absurd h h2
theorem Drop_any (h:Ow w0 w s σ G) (GG:Good σ) (r:Int) (hk:key.length = 32) :
 Calls Tryz.prog 26 #[.pointer (some ⟨s,0,none⟩),.int .i64 r,.agg (brow key)] w fun e w' => ∃ x g σ',e = .returned (.tuple #[.int .i64 x,.bool g,.int .i64 (dropErr σ r)]) ∧ DropTo σ r key x g σ' ∧ Ow w0 w' s σ' G ∧ But G w w':=by
 obtain ⟨F,hAt⟩:=h.at
 by_cases he:dropErr σ r = 0
 · obtain ⟨h2,h3⟩:=dropErr_zero he
   have hre:=rootErr_hand h2
   obtain ⟨t,l,e1,_,ho,_⟩:=root_on GG key hre
   cases hs:thereS σ key e1 with
   | false =>
    refine (Drop_no hAt GG r key hk h2 h3 ho hs).mono fun e w' ⟨he',ha⟩ => ⟨r,false,σ,?_,.inr ⟨he,l,e1,ho,.inl ⟨hs,rfl,rfl,rfl⟩⟩,h.adds ha,Adds.but ha⟩
    rw [he]; exact he'
   | true =>
    refine (DropK_ok h GG r key hk h2 h3 ho hs).mono fun e w' ⟨he',ho',hb'⟩ => ⟨_,true,_,?_,.inr ⟨he,l,e1,ho,.inr ⟨hs,rfl,rfl,rfl⟩⟩,ho',hb'⟩
    rw [he]; exact he'
 have key1:∀ {e:Ending} {w':World},e = .returned (.tuple #[.int .i64 0,.bool false,.int .i64 (dropErr σ r)]) ∧ Adds w w' → ∃ x g σ',e = .returned (.tuple #[.int .i64 x,.bool g,.int .i64 (dropErr σ r)]) ∧ DropTo σ r key x g σ' ∧ Ow w0 w' s σ' G ∧ But G w w':=fun ⟨he',ha⟩ =>
  ⟨0,false,σ,he',.inl ⟨he,rfl,rfl,rfl⟩,h.adds ha,Adds.but ha⟩
 by_cases h2:atHand σ r = 0
 · have h3:fitsJ σ 1 = false:=by
    cases h3:fitsJ σ 1 with
    | false => rfl
    | true => exact absurd (by unfold dropErr; rw [if_neg (by simpa using h2),if_neg (by rw [h3]; simp)]) he
   have e0:dropErr σ r = 9:=by unfold dropErr; rw [if_neg (by simpa using h2),if_pos h3]
   rw [e0] at key1 ⊢
   exact (Drop_full hAt r (brow key) h2 h3).mono fun e w' h => key1 h
 have e0:dropErr σ r = atHand σ r:=by unfold dropErr; rw [if_pos h2]
 rw [e0] at key1 ⊢
 exact (Drop_hand hAt r (brow key) h2).mono fun e w' h => key1 h
theorem Drop10_any (h:ROw w0 w b σ G) (GG:Good σ) (r:Int) (hk:key.length = 32) (htot:total σ + 1000 < 1073741824) (hP:DropTo σ r key x g σ') :
 Calls Tryz.prog 27 #[.pointer (some ⟨b,0,none⟩),.int .i64 r,.agg (brow key)] w fun e w' => e = .returned (.tuple #[.int .i64 x,.bool g,.int .i64 (dropErr σ r)]) ∧ ROw w0 w' b σ' G ∧ But G w w':=by
 rcases hP with ⟨he,rfl,rfl,rfl⟩ | ⟨he,l,e1,ho,h4⟩
 · have key1:∀ {e:Ending} {w':World},e = .returned (.tuple #[.int .i64 0,.bool false,.int .i64 (dropErr σ' r)]) ∧ Adds w w' → e = .returned (.tuple #[.int .i64 0,.bool false,.int .i64 (dropErr σ' r)]) ∧ ROw w0 w' b σ' G ∧ But G w w':=fun ⟨he',ha⟩ => ⟨he',h.adds ha,Adds.but ha⟩
   by_cases h2:atHand σ' r = 0
   · have h3:fitsJ σ' 1 = false:=by
      cases h3:fitsJ σ' 1 with
      | false => rfl
      | true => exact absurd (by unfold dropErr; rw [if_neg (by simpa using h2),if_neg (by rw [h3]; simp)]) he
     have e0:dropErr σ' r = 9:=by unfold dropErr; rw [if_neg (by simpa using h2),if_pos h3]
     rw [e0] at key1 ⊢
     exact (Drop10_full h GG r (brow key) h2 h3).mono fun e w' h => key1 h
   have e0:dropErr σ' r = atHand σ' r:=by unfold dropErr; rw [if_pos h2]
   rw [e0] at key1 ⊢
   exact (Drop10_hand h GG r (brow key) h2).mono fun e w' h => key1 h
 obtain ⟨h2,h3⟩:=dropErr_zero he
 rw [he]
 rcases h4 with ⟨hs,rfl,rfl,rfl⟩ | ⟨hs,rfl,rfl,rfl⟩
 · exact (Drop10_no h GG x key hk h2 h3 ho hs).mono fun e w' ⟨he',ha⟩ => ⟨he',h.adds ha,Adds.but ha⟩
 obtain ⟨t,_,_,ht,_⟩:=root_on GG key (rootErr_hand h2)
 rw [fitsJ_one,GG.used] at h3
 have hroom:=of_decide_eq_true h3
 refine Drop10_ok h GG r key hk h2 ?_ ho hs (up9_cut GG hk ht ho hs (by omega) htot)
 rw [fitsJ_one,GG.used]
 exact h3
theorem DCost_any (h:Ow w0 w s σ G) (GG:Good σ) (r:Int) (hk:key.length = 32) :
 Calls Tryz.prog 24 #[.pointer (some ⟨s,0,none⟩),.int .i64 r,.agg (brow key)] w fun e w' => ∃ x,e = .returned (.tuple #[.int .i64 x,.int .i64 (atHand σ r)]) ∧ DCostTo σ r key x ∧ Adds w w':=by
 obtain ⟨F,hAt⟩:=h.at
 by_cases he:atHand σ r = 0
 · obtain ⟨t,l,e1,_,ho,_⟩:=root_on GG key (rootErr_hand he)
   refine (DCost_ok hAt GG r key hk he ho).mono fun e w' ⟨he',ha⟩ => ⟨_,?_,.inr ⟨he,l,e1,ho,rfl⟩,ha⟩
   rw [he]; exact he'
 exact (DCost_hand hAt r (brow key) he).mono fun e w' ⟨he',ha⟩ => ⟨0,he',.inl ⟨he,rfl⟩,ha⟩
theorem DCost10_any (h:ROw w0 w b σ G) (GG:Good σ) (r:Int) (hk:key.length = 32) (hC:DCostTo σ r key x) :
 Calls Tryz.prog 25 #[.pointer (some ⟨b,0,none⟩),.int .i64 r,.agg (brow key)] w fun e w' => e = .returned (.tuple #[.int .i64 x,.int .i64 (atHand σ r)]) ∧ Adds w w':=by
 rcases hC with ⟨he,rfl⟩ | ⟨he,l,e1,ho,rfl⟩
 · exact DCost10_hand h GG r (brow key) he
 obtain ⟨t,_,_,ht,_⟩:=root_on GG key (rootErr_hand he)
 rw [he]
 exact DCost10_ok h GG r key hk he ht ho
theorem cutS_good (GG:Good σ) (key:List UInt8) (l:List Int):Good (cutS σ key l).2:=by
 unfold cutS
 simp only
 split
 · exact Good.up _ _ (Good.join (Good.heldS GG _) _ _ _ _) _
 exact Good.up _ _ (Good.heldS GG _) _
theorem DropTo.good (h:DropTo σ r key x g σ') (GG:Good σ):Good σ':=by
 rcases h with ⟨_,_,_,rfl⟩ | ⟨_,l,e1,ho,⟨_,_,_,rfl⟩ | ⟨_,_,_,rfl⟩⟩
 · exact GG
 · exact GG
 exact (cutS_good GG key l).drop r
theorem DropTo.same (h:DropTo σ r key x g σ') (he:dropErr σ r ≠ 0):σ' = σ:=by
 rcases h with ⟨_,_,_,h1⟩ | ⟨h0,_⟩
 · exact h1
 exact absurd h0 he
theorem Sce.dropKey {root:Int} {L:Ents} {A:List (Int × Ents)} {n i:Nat} (P:Sce σ root L A n i) (hi:i ≤ 16) (hk:key.length = 32) (h:DropTo σ root key x g σ') (he:dropErr σ root = 0):Sce σ' x (without L key) A n (i + 1):=by
 have ht:=P.tot
 have D:=P.roots
 have D0:Db σ root L:=D.db (List.mem_cons_self ..)
 have hz:=D0.good.fit.zero
 obtain ⟨h2,h3⟩:=dropErr_zero he
 rw [fitsJ_one,D0.good.used] at h3
 have hroom:=of_decide_eq_true h3
 rcases h with ⟨h0,_⟩ | ⟨_,l,e1,ho,⟨hs,rfl,_,rfl⟩ | ⟨hs,rfl,_,rfl⟩⟩
 · exact absurd he h0
 · have hno:key ∉ keysOf L:=fun hm => by have:=(there_key D0 hk ho).2 hm; rw [hs] at this; cases this
   rw [without_none hno]
   exact P.next
 obtain ⟨m,hm256,hm⟩:=cut_spec D0.good hk D0.rep ho hs (by omega) (by omega)
 have hr0:root ≠ 0:=fun e => by
  subst e
  obtain ⟨_,e⟩:=ho.zero hz
  unfold thereS at hs
  rw [e] at hs
  have:(nd σ 0).kind = 0:=nd_gone hz
  rw [this] at hs
  simp at hs
 have hh:=D0.held.resolve_left hr0
 obtain ⟨c1,c2,c3,c4⟩:=hm.dropped hm256 hh
 have hst:=hm.step D0.good hh
 have hdt:=del_tree (k:=key) 256 (Nat.le_refl _) (Ents.Ok.any D0.nodup D0.len key) hk
 rw [Nat.sub_self] at hdt
 rw [hdt] at c3
 have hh1:1 ≤ held (cutS σ key l).2 root:=by
  obtain ⟨y,hy,_⟩:=held_there hh
  rw [(hm.old root _ (sk_some hy)).2]
  split <;> omega
 have htt:=(dropS_spec hm.good.sound hh1).2.2.2.2.2.2.1
 have hmt:=hm.total
 exact ⟨D.step hst c3 (D0.nodup.sublist (keys_filter L _)) (fun p hp => D0.len p (List.mem_filter.1 hp).1),P.nz,P.len,by show total (dropS (cutS σ key l).2 root).2.2 ≤ _; omega,by show (dropS (cutS σ key l).2 root).2.2.room = n; rw [c1.room]; exact P.room⟩
end
end Go.Proofs.YtmeglndnkdgkoaaGreat.Store
namespace Go.Proofs.YtmeglndnkdgkoaaGreat.Store
open Go Go.RowKit Go.Proofs.YtmeglndnkdgkoaaGreat Go.Proofs.YtmeglndnkdgkoaaGreat.ShaW Go.Proofs.YtmeglndnkdgkoaaGreat.Path Go.Proofs.YtmeglndnkdgkoaaGreat.Law9
section
variable {w0 w w' : World} {c s b n i : Nat} {σ : SlabSt Nd} {root : Int} {L : Ents} {A : List (Int × Ents)} {G : Nat → Prop}
theorem Sce.put {σ':SlabSt Nd} {y:Int} {key bs:List UInt8} (P:Sce σ root L A n i) (hi:i ≤ 16) (hk:key.length = 32) (hp:PutTo σ root key bs y σ') (he:putErr σ root bs = 0):Sce σ' y (upd L key bs) A n (i + 1):=by
 have ht:=P.tot
 obtain ⟨hw,hr,_⟩:=hp.roots P.roots hk (by omega) he
 exact ⟨hr,P.nz,P.len,by have:=hw.total; omega,by rw [hw.room]; exact P.room⟩
theorem Do_put (h:ScAt w0 w c s b σ σ root (firsts A) G) (P:Sce σ root L A n i) (hi:i ≤ 16) (x:Act9) (hx:x.Good w0) (hlen:x.val.length ≤ 2000) (hk:x.kind = 0) :
 Calls Tryz.prog 77 #[.pointer (some ⟨c,0,none⟩),.agg x.cells] w fun e w' => DoRet w0 w' c s b n i G e:=by
 unfold DoRet
 have q0:=Act9.at_kind (x:=x)
 have qs:=Act9.size hx.key
 have hkl:=hx.key
 have a0:Adds w (w.alloc (.cells x.cells 47)):=(Ch.refl (fun _ => False) w).alloc _
 have hc:∀ w1,w1.heap.size = w.heap.size + 1 → Adds w w1 → PutScene w0 w1 c s b σ root (firsts A) (fun k => G k ∨ k = w.heap.size) root x:=fun w1 hz a => put_scene (h.more a (fun k hk => by
  rcases hk with hk | rfl
  · exact .inl hk
  exact .inr ⟨Nat.le_refl _,by omega⟩)) P.roots.good root x hx hlen
 unfold PutScene PutRet at hc
 obtain ⟨X,hX⟩:∃ X,X = x.cells:=⟨_,rfl⟩
 obtain ⟨er,her⟩:∃ er,er = putErr σ root x.val:=⟨_,rfl⟩
 rw [hk, ← hX] at q0
 rw [← hX] at qs a0 hc
 rw [← her] at hc
 rw [← hX]
 obtain ⟨aa,ac,hr,_⟩:=h.row
 have HP:=(hIq P (aIq hi (aIq hkl her)))
 have HC:=Lib.hid hc
 have HX:=Lib.hid qs
 have H0:=(hIq (row_alloc hr (.cells X 47)) (aIq (heap_alloc_new w (.cells X 47)) a0))
 have ck:=row_cell (heap_alloc_new w (.cells X 47)) q0
 clear h P q0 qs hX hk hx a0 hc hr hi hkl her hlen
 go_enter Tryz.func77,Tryz.ntmps77
 go_wp2
 refine wp_region_plan (fun wz => (∃ va,wz.heap[c]? = some (.cells #[.pointer (some ⟨s,0,none⟩),.pointer (some ⟨b,0,none⟩),.int .i64 root,va] 45 (0,0))) ∧ wz.heap[w.heap.size]? = some (.cells X 47 (0,0))) 13 [(0,false),(1,false),(2,false),(3,false),(4,false),(5,false),(6,true),(7,false),(8,false),(9,false),(10,false),(11,false),(12,false)] (by kernel_rfl) (by kernel_rfl) ?_ ?_
 · exact ⟨⟨_,row_drew H0.out.1⟩,row_drew H0.out.2.1⟩
 iterate 4
  refine plan_look rfl rfl (fun w0 hS => (by clear hS; go_simp; try rfl)) ?_
  simp only [Act.put,nAq,nBq,nCq]
 refine plan_look (v:=.int .i64 root) rfl rfl (fun w0 hS => (by obtain ⟨⟨va,hva⟩,_⟩:=hS; have c1:=row_cell hva (i:=2) rfl; clear hva; go_simp; try rfl)) ?_
 simp only [Act.put,nAq,nBq,nCq]
 refine plan_load_part (cur:=X) (t:=47) (fr:=(0,0)) rfl rfl 47 (.tmp 3) rfl w.heap.size 0 35 rfl (fun w0 hS => hS.2) Tryz.underlying47 rfl sizeAct9 (by rw [HX.out]; omega) X (by simp [← HX.out]) ?_
 simp only [Act.put,nAq,nBq,nCq]
 refine plan_do rfl ?_
 go_wp2_with fail
 refine (HC.out _ (by show (w.alloc (.cells X 47)).heap.size = _; simp) H0.out.2.2.drew).mono ?_; rintro e w2 ⟨y,σ1,⟨rfl,hp⟩,S2,B2⟩
 obtain ⟨aa2,ac2,hr2,_⟩:=S2.row
 have hx2:=B2.row (row_drew H0.out.2.1) (.inr rfl)
 have H2:=(hIq S2 (aIq hp (aIq hr2 hx2)))
 clear S2 B2 hp hr2 hx2
 dsimp only
 go_step
 refine wpList_nil ?_
 change _ ∧ _
 refine ⟨⟨⟨_,H2.out.2.2.1⟩,H2.out.2.2.2⟩,?_⟩
 iterate 6
  refine plan_look rfl rfl (fun w0 hS => (by clear hS; go_simp; try rfl)) ?_
  simp only [Act.put,nAq,nBq,nCq]
 refine plan_end ?_; simp only [List.drop_succ_cons,List.drop_zero]
 go_wp2
 refine NoPanic.normal ?_
 by_cases he:er = 0
 · have hP:=HP.out.1.put HP.out.2.1 HP.out.2.2.1 H2.out.2.1 (by rw [← HP.out.2.2.2]; exact he)
   have hs2:=H2.out.1.setRoot y
   have HE:=(hIq hP (hs2.less (fun k hk => .inl hk)))
   have c2:=row_cell H2.out.2.2.1 (i:=2) rfl
   have f2:=row_free H2.out.2.2.1 2
   have l2:=row_lt H2.out.2.2.1
   clear hP hs2
   go_wp2
   go_ret
   exact ⟨rfl,_,_,_,_,HE.out.2,HE.out.1⟩
 obtain ⟨_,e2⟩:=H2.out.2.1.same (by rw [← HP.out.2.2.2]; exact he)
 have hs2:=H2.out.1.less (G':=G) (fun k hk => .inl hk)
 rw [e2] at hs2
 have HE:=(hIq HP.out.1.next hs2)
 have he2:(er == 0) = false:=by simpa using he
 clear e2 hs2
 go_wp2
 go_ret
 exact ⟨rfl,_,_,_,_,HE.out.2,HE.out.1⟩
theorem Do_fits (h:ScAt w0 w c s b σ σ root (firsts A) G) (P:Sce σ root L A n i) (x:Act9) (hx:x.Good w0) (hk:x.kind = 5) :
 Calls Tryz.prog 77 #[.pointer (some ⟨c,0,none⟩),.agg x.cells] w fun e w' => DoRet w0 w' c s b n i G e:=by
 unfold DoRet
 have q0:=Act9.at_kind (x:=x)
 have qh:=Act9.at_h hx.key
 have a0:Adds w (w.alloc (.cells x.cells 47)):=(Ch.refl (fun _ => False) w).alloc _
 obtain ⟨X,hX⟩:∃ X,X = x.cells:=⟨_,rfl⟩
 obtain ⟨xh,hxh⟩:∃ xh,xh = x.h:=⟨_,rfl⟩
 rw [hk, ← hX] at q0
 rw [← hX, ← hxh] at qh
 rw [← hX] at a0
 rw [← hX]
 have hf1:=fun w1 (a:Adds w w1) => (show Calls Tryz.prog 90 #[.pointer (some ⟨s,0,none⟩),.int .i64 xh] w1 (fun e w' => e = .returned (.bool (fitsJ σ xh)) ∧ w1 = w') by
  obtain ⟨F,hF⟩:=(h.adds a).ow.at
  exact Fits_ok hF xh)
 have hf2:=fun w1 (a:Adds w w1) => R9Fits_ok (h.adds a).row9 P.roots.good xh
 have hh1:=fun w1 (a:Adds w w1) => (show Calls Tryz.prog 83 #[.pointer (some ⟨s,0,none⟩),.int .i64 xh] w1 (fun e w' => e = .returned (.int .i64 (atHand σ xh)) ∧ Adds w1 w') by
  obtain ⟨F,hF⟩:=(h.adds a).ow.at
  exact AtHand_ok hF xh)
 have hh2:=fun w1 (a:Adds w w1) => R9AtHand_ok (h.adds a).row9 P.roots.good xh
 obtain ⟨ft,hft⟩:∃ ft,ft = fitsJ σ xh:=⟨_,rfl⟩
 obtain ⟨er,her⟩:∃ er,er = atHand σ xh:=⟨_,rfl⟩
 rw [← hft] at hf1 hf2
 rw [← her] at hh1 hh2
 obtain ⟨aa,ac,hr,_⟩:=h.row
 have HS:=(hIq h P)
 have F1:=Lib.hid hf1
 have F2:=Lib.hid hf2
 have E1:=Lib.hid hh1
 have E2:=Lib.hid hh2
 have HX:=Lib.hid qh
 have H0:=(hIq (row_alloc hr (.cells X 47)) (aIq (heap_alloc_new w (.cells X 47)) a0))
 have ck:=row_cell (heap_alloc_new w (.cells X 47)) q0
 clear h P q0 qh hX hk hx a0 hf1 hf2 hh1 hh2 hr hxh hft her
 go_enter Tryz.func77,Tryz.ntmps77
 go_wp2
 refine wp_region_plan (fun wz => (∃ va,wz.heap[c]? = some (.cells #[.pointer (some ⟨s,0,none⟩),.pointer (some ⟨b,0,none⟩),.int .i64 root,va] 45 (0,0))) ∧ wz.heap[w.heap.size]? = some (.cells X 47 (0,0))) 32 [(0,false),(1,false),(2,false),(3,false),(4,false),(5,false),(7,false),(8,false),(9,false),(10,false),(11,false),(12,false),(6,true),(13,true),(14,false),(15,false),(16,false),(17,false),(18,false),(19,false),(20,false),(21,false),(23,false),(24,false),(25,false),(26,false),(27,false),(28,false),(22,true),(29,true),(30,false),(31,false)] (by kernel_rfl) (by kernel_rfl) ?_ ?_
 · exact ⟨⟨_,row_drew H0.out.1⟩,row_drew H0.out.2.1⟩
 iterate 3
  refine plan_look rfl rfl (fun w0 hS => (by clear hS; go_simp; try rfl)) ?_
  simp only [Act.put,nAq,nBq,nCq]
 refine plan_look (v:=.pointer (some ⟨s,0,none⟩)) rfl rfl (fun w0 hS => (by obtain ⟨⟨va,hva⟩,_⟩:=hS; have c1:=row_cell hva (i:=0) rfl; clear hva; go_simp; try rfl)) ?_
 simp only [Act.put,nAq,nBq,nCq]
 refine plan_look rfl rfl (fun w0 hS => (by clear hS; go_simp; try rfl)) ?_
 simp only [Act.put,nAq,nBq,nCq]
 refine plan_look (v:=.int .i64 xh) rfl rfl (fun w0 hS => (by have c1:=row_cell hS.2 HX.out; clear hS; go_simp; try rfl)) ?_
 simp only [Act.put,nAq,nBq,nCq]
 iterate 3
  refine plan_look rfl rfl (fun w0 hS => (by clear hS; go_simp; try rfl)) ?_
  simp only [Act.put,nAq,nBq,nCq]
 refine plan_look (v:=.pointer (some ⟨b,0,none⟩)) rfl rfl (fun w0 hS => (by obtain ⟨⟨va,hva⟩,_⟩:=hS; have c1:=row_cell hva (i:=1) rfl; clear hva; go_simp; try rfl)) ?_
 simp only [Act.put,nAq,nBq,nCq]
 refine plan_look rfl rfl (fun w0 hS => (by clear hS; go_simp; try rfl)) ?_
 simp only [Act.put,nAq,nBq,nCq]
 refine plan_look (v:=.int .i64 xh) rfl rfl (fun w0 hS => (by have c1:=row_cell hS.2 HX.out; clear hS; go_simp; try rfl)) ?_
 simp only [Act.put,nAq,nBq,nCq]
 refine plan_do rfl ?_
 go_wp2_with fail
 refine (F1.out _ H0.out.2.2.drew).mono ?_; rintro e w2 ⟨rfl,hw2⟩
 subst hw2
 dsimp only
 go_step
 refine wpList_nil ?_
 change _ ∧ _
 refine ⟨⟨⟨_,row_drew H0.out.1⟩,row_drew H0.out.2.1⟩,?_⟩
 refine plan_do rfl ?_
 go_wp2_with fail
 refine (F2.out _ H0.out.2.2.drew).mono ?_; rintro e w2 ⟨rfl,a2⟩
 have H2:=(hIq (a2.row (row_drew H0.out.1) id) (aIq (a2.row (row_drew H0.out.2.1) id) (H0.out.2.2.drew.trans a2 (fun _ => fEq))))
 clear a2
 dsimp only
 go_step
 refine wpList_nil ?_
 change _ ∧ _
 refine ⟨⟨⟨_,H2.out.1⟩,H2.out.2.1⟩,?_⟩
 refine plan_look (v:=.bool true) rfl rfl (fun w0 hS => (by clear hS; cases ft <;> (go_simp; try rfl))) ?_
 simp only [Act.put,nAq,nBq,nCq]
 iterate 4
  refine plan_look rfl rfl (fun w0 hS => (by clear hS; go_simp; try rfl)) ?_
  simp only [Act.put,nAq,nBq,nCq]
 refine plan_look (v:=.pointer (some ⟨s,0,none⟩)) rfl rfl (fun w0 hS => (by obtain ⟨⟨va,hva⟩,_⟩:=hS; have c1:=row_cell hva (i:=0) rfl; clear hva; go_simp; try rfl)) ?_
 simp only [Act.put,nAq,nBq,nCq]
 refine plan_look rfl rfl (fun w0 hS => (by clear hS; go_simp; try rfl)) ?_
 simp only [Act.put,nAq,nBq,nCq]
 refine plan_look (v:=.int .i64 xh) rfl rfl (fun w0 hS => (by have c1:=row_cell hS.2 HX.out; clear hS; go_simp; try rfl)) ?_
 simp only [Act.put,nAq,nBq,nCq]
 iterate 3
  refine plan_look rfl rfl (fun w0 hS => (by clear hS; go_simp; try rfl)) ?_
  simp only [Act.put,nAq,nBq,nCq]
 refine plan_look (v:=.pointer (some ⟨b,0,none⟩)) rfl rfl (fun w0 hS => (by obtain ⟨⟨va,hva⟩,_⟩:=hS; have c1:=row_cell hva (i:=1) rfl; clear hva; go_simp; try rfl)) ?_
 simp only [Act.put,nAq,nBq,nCq]
 refine plan_look rfl rfl (fun w0 hS => (by clear hS; go_simp; try rfl)) ?_
 simp only [Act.put,nAq,nBq,nCq]
 refine plan_look (v:=.int .i64 xh) rfl rfl (fun w0 hS => (by have c1:=row_cell hS.2 HX.out; clear hS; go_simp; try rfl)) ?_
 simp only [Act.put,nAq,nBq,nCq]
 refine plan_do rfl ?_
 go_wp2_with fail
 refine (E1.out _ H2.out.2.2).mono ?_; rintro e w3 ⟨rfl,a3⟩
 have H3:=(hIq (a3.row H2.out.1 id) (aIq (a3.row H2.out.2.1 id) (H2.out.2.2.trans a3 (fun _ => fEq))))
 clear a3
 dsimp only
 go_step
 refine wpList_nil ?_
 change _ ∧ _
 refine ⟨⟨⟨_,H3.out.1⟩,H3.out.2.1⟩,?_⟩
 refine plan_do rfl ?_
 go_wp2_with fail
 refine (E2.out _ H3.out.2.2).mono ?_; rintro e w4 ⟨rfl,a4⟩
 have H4:=(hIq (a4.row H3.out.1 id) (aIq (a4.row H3.out.2.1 id) (H3.out.2.2.trans a4 (fun _ => fEq))))
 clear a4
 dsimp only
 go_step
 refine wpList_nil ?_
 change _ ∧ _
 refine ⟨⟨⟨_,H4.out.1⟩,H4.out.2.1⟩,?_⟩
 iterate 2
  refine plan_look rfl rfl (fun w0 hS => (by clear hS; go_simp; try rfl)) ?_
  simp only [Act.put,nAq,nBq,nCq]
 refine plan_end ?_; simp only [List.drop_succ_cons,List.drop_zero]
 go_wp2
 refine NoPanic.normal ?_
 go_wp2
 go_ret
 exact ⟨rfl,_,_,_,_,HS.out.1.adds H4.out.2.2,HS.out.2.next⟩
end
section
variable {w0 w w' : World} {c s b n i : Nat} {σ : SlabSt Nd} {root : Int} {L : Ents} {A : List (Int × Ents)} {G : Nat → Prop}
theorem firsts_length:(firsts A).length = A.length:=by simp [firsts]
theorem Sce.hold (P:Sce σ root L A n i) (hi:i ≤ 16) (h0:root ≠ 0) (hl:A.length ≤ 8):(holdS σ root).1 = 0 ∧ Sce (holdS σ root).2 root L (A ++ [(root,L)]) n (i + 1):=by
 have ht:=P.tot
 obtain ⟨h1,h2,_,h4,h5⟩:=P.roots.hold h0 (by omega)
 refine ⟨h1,h2.perm ?_,fun p hp => ?_,by rw [List.length_append]; simp; omega,by omega,by rw [h5]; exact P.room⟩
 · refine List.Perm.cons _ ?_
   exact (List.perm_append_comm (l₁ := [(root,L)]) (l₂:=A))
 rcases List.mem_append.1 hp with hp | hp
 · exact P.nz p hp
 obtain rfl:=List.mem_singleton.1 hp
 exact h0
theorem Do_hold_no (h:ScAt w0 w c s b σ σ root (firsts A) G) (P:Sce σ root L A n i) (x:Act9) (hx:x.Good w0) (hk:x.kind = 1) (hn:root = 0 ∨ 8 < A.length) :
 Calls Tryz.prog 77 #[.pointer (some ⟨c,0,none⟩),.agg x.cells] w fun e w' => DoRet w0 w' c s b n i G e:=by
 unfold DoRet
 have q0:=Act9.at_kind (x:=x)
 have a0:Adds w (w.alloc (.cells x.cells 47)):=(Ch.refl (fun _ => False) w).alloc _
 obtain ⟨X,hX⟩:∃ X,X = x.cells:=⟨_,rfl⟩
 rw [hk, ← hX] at q0
 rw [← hX] at a0
 rw [← hX]
 obtain ⟨aa,ac,hr,_⟩:=h.row
 rw [firsts_length] at hr
 obtain ⟨m,hm⟩:∃ m,m = A.length:=⟨_,rfl⟩
 rw [← hm] at hr hn
 have HS:=(hIq (h.adds a0) P)
 have hra:=row_alloc hr (.cells X 47)
 have ck:=row_cell (heap_alloc_new w (.cells X 47)) q0
 have c2:=row_cell hra (i:=2) rfl
 have c3:=row_cell hra (i:=3) rfl
 clear h P q0 hX hk hx a0 hr hm hra
 by_cases h0:root = 0
 · subst h0
   clear hn
   go_enter Tryz.func77,Tryz.ntmps77
   go_wp2
   go_ret
   exact ⟨rfl,_,_,_,_,HS.out.1,HS.out.2.next⟩
 have h0b:(root == 0) = false:=by simpa using h0
 have h8:decide (8 < (m:Int)) = true:=decide_eq_true (by have:=hn.resolve_left h0; omega)
 clear hn h0
 go_enter Tryz.func77,Tryz.ntmps77
 go_wp2
 go_ret
 exact ⟨rfl,_,_,_,_,HS.out.1,HS.out.2.next⟩
theorem Do_hold_yes (h:ScAt w0 w c s b σ σ root (firsts A) G) (P:Sce σ root L A n i) (hi:i ≤ 16) (x:Act9) (hx:x.Good w0) (hk:x.kind = 1) (h0:root ≠ 0) (h8:A.length ≤ 8) :
 Calls Tryz.prog 77 #[.pointer (some ⟨c,0,none⟩),.agg x.cells] w fun e w' => DoRet w0 w' c s b n i G e:=by
 unfold DoRet
 have q0:=Act9.at_kind (x:=x)
 obtain ⟨ph,PH⟩:=P.hold hi h0 h8
 have hsl:=h
 obtain ⟨i0,hi0,hz0,hz1,hz2⟩:=SlabN.int_info
 have HI:=(hIq hi0 (aIq hz0 (aIq hz1 hz2)))
 have a0:Adds w (w.alloc (.cells x.cells 47)):=(Ch.refl (fun _ => False) w).alloc _
 obtain ⟨X,hX⟩:∃ X,X = x.cells:=⟨_,rfl⟩
 rw [hk, ← hX] at q0
 rw [← hX] at a0
 rw [← hX]
 obtain ⟨aa,ac,hr,hown⟩:=(h.adds a0).row
 have hfl:=firsts_length (A:=A)
 obtain ⟨m,hm⟩:∃ m,m = (firsts A).length:=⟨_,rfl⟩
 rw [← hm] at hr hown hfl
 have HS:=(hIq (h.adds a0) (aIq P.roots.good (aIq PH ph)))
 have HR:=(hIq hr hown)
 have HM:=Lib.hid hm
 have ck:=row_cell (heap_alloc_new w (.cells X 47)) q0
 have c2:=row_cell hr (i:=2) rfl
 have c3:=row_cell hr (i:=3) rfl
 have h0b:(root == 0) = false:=by simpa using h0
 have h8b:decide (8 < (m:Int)) = false:=decide_eq_false (by omega)
 have hm8:m ≤ 8:=by omega
 obtain ⟨w1,hw1⟩:∃ w1,w1 = w.alloc (.cells X 47):=⟨_,rfl⟩
 rw [← hw1] at HS HR
 have lc:=row_lt HR.out.1
 clear h P q0 hX hk hx a0 hr hm h0 h8 PH ph hsl hown hfl hi0 hz0 hz1 hz2
 go_enter Tryz.func77,Tryz.ntmps77
 go_upto_region 10 with fail
 refine at_worldF (fun w2 hw2 => ?_)
 have e12:w2 = w1:=by rw [hw2,hw1]
 subst e12
 clear hw1 hw2 ck c2 c3
 refine wp_region_plan (fun wz => wz.heap[c]? = some (.cells #[.pointer (some ⟨s,0,none⟩),.pointer (some ⟨b,0,none⟩),.int .i64 root,.slice aa m ac] 45 (0,0))) 11 [(0,false),(1,false),(2,false),(3,false),(4,false),(5,false),(6,false),(7,false),(8,false),(9,true),(10,true)] (by kernel_rfl) (by kernel_rfl) ?_ ?_
 · exact row_drew HR.out.1
 iterate 4
  refine plan_look rfl rfl (fun w0 hS => (by clear hS; go_simp; try rfl)) ?_
  simp only [Act.put,nAq,nBq,nCq]
 refine plan_look (v:=.slice aa m ac) rfl rfl (fun w0 hS => (by have c1:=row_cell hS (i:=3) rfl; clear hS; go_simp; try rfl)) ?_
 simp only [Act.put,nAq,nBq,nCq]
 iterate 3
  refine plan_look rfl rfl (fun w0 hS => (by clear hS; go_simp; try rfl)) ?_
  simp only [Act.put,nAq,nBq,nCq]
 refine plan_look (v:=.int .i64 root) rfl rfl (fun w0 hS => (by have c1:=row_cell hS (i:=2) rfl; clear hS; go_simp; try rfl)) ?_
 simp only [Act.put,nAq,nBq,nCq]
 refine plan_do rfl ?_
 go_wp2
 obtain ⟨w3,hw3⟩:∃ w3,w3 = (w2.alloc (.cells #[.int .i64 root] 3)).drew:=⟨_,rfl⟩
 rw [← hw3]
 have r3:w3.heap[c]? = some (.cells #[.pointer (some ⟨s,0,none⟩),.pointer (some ⟨b,0,none⟩),.int .i64 root,.slice aa m ac] 45 (0,0)):=by rw [hw3]; exact row_drew (row_alloc HR.out.1 _)
 have a3:Adds w2 w3:=by rw [hw3]; exact ((Ch.refl _ _).alloc _).drew
 have n3:w3.cell? ⟨w2.heap.size,0,none⟩ = some (.int .i64 root):=by
  rw [hw3]
  exact row_cell (row_drew (heap_alloc_new w2 (.cells #[.int .i64 root] 3))) rfl
 have H3:=(hIq r3 (aIq a3 (aIq (a3.owns HR.out.2 (fun _ _ h => h)) n3)))
 clear hw3 r3 a3 n3 lc
 refine ⟨H3.out.1,?_⟩
 refine plan_do rfl ?_
 refine wpList_append_mine rfl (.tmp 55) (.tmp 60) 43 rfl 3 i0 (.int .i64 0) 1 8 Tryz.underlying43 HI.out.1 HI.out.2.1 HI.out.2.2.1 HI.out.2.2.2 rfl (by decide) (.slice aa m ac) m (hl (firsts A)) rfl H3.out.2.2.1 ⟨w2.heap.size,0,none⟩ 1 1 [.int .i64 root] rfl rfl (fun j u hu => ?_) (by simp [Value.oneCell']) (by unfold maxLen; omega) (by omega) ?_
 · have hj:j = 0:=by
    have:=(List.getElem?_eq_some_iff.1 hu).1
    simp at this
    exact this
   subst hj
   cases hu
   exact H3.out.2.2.2
 intro v' w4 own' grow' ob'
 obtain ⟨ro,rc,rfl⟩:=owns_form own'
 have ch4:Ch (fun k => (Value.slice aa m ac).ownBlock = some k) w2 w4:=((H3.out.2.1.mono (G:=fun k => (Value.slice aa m ac).ownBlock = some k) (fun _ _ h => h.elim))).grown grow' (fun j hj => .inl hj)
 have hne:¬ (Value.slice aa m ac).ownBlock = some c:=fun e => by
  obtain ⟨_,_,_,vA,_,_,_,q4,_,_,_,_,q9,_⟩:=HS.out.1
  rw [HR.out.1] at q4
  simp only [Option.some.injEq,Obj.cells.injEq,and_true,true_and,Array.mk.injEq,List.cons.injEq,and_self] at q4
  subst q4
  exact (q9 c e).2.1 rfl
 have r4:=ch4.row HR.out.1 hne
 have S4:ScAt w0 (w4.setCell ⟨c,3,none⟩ (.slice ro (m + 1) rc)) c s b σ σ root (firsts (A ++ [(root,L)])) G:=by
  refine HS.out.1.setAside HR.out.1 ch4 ?_ (ob'.imp id (fun h k hk => Nat.le_trans H3.out.2.1.size (h k hk)))
  have e1:(firsts (A ++ [(root,L)])).length = m + 1:=by rw [HM.out]; simp [firsts]
  have e2:hl (firsts (A ++ [(root,L)])) = hl (firsts A) ++ [.int .i64 root]:=by simp [firsts,Store.hl]
  rw [e1,e2]
  exact own'
 have H4:=Lib.hid S4
 have c3:=row_cell r4 (i:=3) rfl
 have f3:=row_free r4 3
 have l4:=row_lt r4
 refine wpList_nil ?_
 change _ ∧ _
 refine ⟨r4,?_⟩
 clear own' grow' ob' ch4 hne S4 r4
 refine plan_end ?_
 simp only [List.drop_succ_cons,List.drop_zero,Act.put,List.setIfInBounds_toArray,List.set_cons_succ,List.set_cons_zero]
 go_wp2
 refine NoPanic.normal ?_
 obtain ⟨w5,hw5⟩:∃ w5,w5 = w4.setCell ⟨c,3,none⟩ (.slice ro (m + 1) rc):=⟨_,rfl⟩
 rw [← hw5]
 have S5:ScAt w0 w5 c s b σ σ root (firsts (A ++ [(root,L)])) G:=by rw [hw5]; exact H4.out
 obtain ⟨aa5,ac5,r5,_⟩:=S5.row
 have hH1:∀ w6,ScAt w0 w6 c s b σ σ root (firsts (A ++ [(root,L)])) G → Calls Tryz.prog 65 #[.pointer (some ⟨s,0,none⟩),.int .i64 root] w6 fun e w' => ∃ σ',(e = .returned (.int .i64 0) ∧ σ' = (holdS σ root).2) ∧ ScAt w0 w' c s b σ' σ root (firsts (A ++ [(root,L)])) G ∧ But G w6 w':=fun w6 S6 => by
  refine ScAt.impl (P:=fun e σ' => e = .returned (.int .i64 0) ∧ σ' = (holdS σ root).2) S6 (fun G' o => ?_)
  have:=o.hold root
  rw [HS.out.2.2.2] at this
  exact this.mono fun e w' ⟨he,ho,hB⟩ => ⟨_,⟨he,rfl⟩,ho,hB⟩
 have hH2:∀ w6 σ',ScAt w0 w6 c s b σ' σ root (firsts (A ++ [(root,L)])) G → Calls Tryz.prog 66 #[.pointer (some ⟨b,0,none⟩),.int .i64 root] w6 fun e w' => ∃ τ',(e = .returned (.int .i64 0) ∧ τ' = (holdS σ root).2) ∧ ScAt w0 w' c s b σ' τ' root (firsts (A ++ [(root,L)])) G ∧ But G w6 w':=fun w6 σ' S6 => by
  refine ScAt.refr (P:=fun e τ' => e = .returned (.int .i64 0) ∧ τ' = (holdS σ root).2) S6 (fun G' o => ?_)
  have:=o.hold HS.out.2.1 root
  rw [HS.out.2.2.2] at this
  exact this.mono fun e w' ⟨he,ho,hB⟩ => ⟨_,⟨he,rfl⟩,ho,hB⟩
 have H5:=(hIq S5 r5)
 have HH1:=Lib.hid hH1
 have HH2:=Lib.hid hH2
 clear hw5 S5 r5 hH1 hH2 H4 H3 c3 f3 l4
 go_wp2
 refine wp_region_plan (fun wz => ∃ va,wz.heap[c]? = some (.cells #[.pointer (some ⟨s,0,none⟩),.pointer (some ⟨b,0,none⟩),.int .i64 root,va] 45 (0,0))) 19 [(0,false),(1,false),(2,false),(3,false),(4,false),(5,false),(6,false),(7,false),(9,false),(10,false),(11,false),(12,false),(13,false),(14,false),(15,false),(16,false),(8,true),(17,true),(18,false)] (by kernel_rfl) (by kernel_rfl) ?_ ?_
 · exact ⟨_,row_drew H5.out.2⟩
 iterate 3
  refine plan_look rfl rfl (fun w0 hS => (by clear hS; go_simp; try rfl)) ?_
  simp only [Act.put,nAq,nBq,nCq]
 refine plan_look (v:=.pointer (some ⟨s,0,none⟩)) rfl rfl (fun w0 hS => (by obtain ⟨va,hva⟩:=hS; have c1:=row_cell hva (i:=0) rfl; clear hva; go_simp; try rfl)) ?_
 simp only [Act.put,nAq,nBq,nCq]
 iterate 3
  refine plan_look rfl rfl (fun w0 hS => (by clear hS; go_simp; try rfl)) ?_
  simp only [Act.put,nAq,nBq,nCq]
 refine plan_look (v:=.int .i64 root) rfl rfl (fun w0 hS => (by obtain ⟨va,hva⟩:=hS; have c1:=row_cell hva (i:=2) rfl; clear hva; go_simp; try rfl)) ?_
 simp only [Act.put,nAq,nBq,nCq]
 iterate 3
  refine plan_look rfl rfl (fun w0 hS => (by clear hS; go_simp; try rfl)) ?_
  simp only [Act.put,nAq,nBq,nCq]
 refine plan_look (v:=.pointer (some ⟨b,0,none⟩)) rfl rfl (fun w0 hS => (by obtain ⟨va,hva⟩:=hS; have c1:=row_cell hva (i:=1) rfl; clear hva; go_simp; try rfl)) ?_
 simp only [Act.put,nAq,nBq,nCq]
 iterate 3
  refine plan_look rfl rfl (fun w0 hS => (by clear hS; go_simp; try rfl)) ?_
  simp only [Act.put,nAq,nBq,nCq]
 refine plan_look (v:=.int .i64 root) rfl rfl (fun w0 hS => (by obtain ⟨va,hva⟩:=hS; have c1:=row_cell hva (i:=2) rfl; clear hva; go_simp; try rfl)) ?_
 simp only [Act.put,nAq,nBq,nCq]
 refine plan_do rfl ?_
 go_wp2_with fail
 refine (HH1.out _ (H5.out.1.adds (Ch.refl _ _).drew)).mono ?_; rintro e w6 ⟨σ',⟨rfl,hs'⟩,S6,_⟩
 obtain ⟨aa6,ac6,r6,_⟩:=S6.row
 have H6:=(hIq S6 (aIq r6 hs'))
 clear S6 r6 hs'
 dsimp only
 go_step
 refine wpList_nil ?_
 change _ ∧ _
 refine ⟨⟨_,H6.out.2.1⟩,?_⟩
 refine plan_do rfl ?_
 go_wp2_with fail
 refine (HH2.out _ _ H6.out.1).mono ?_; rintro e w7 ⟨τ',⟨rfl,ht'⟩,S7,_⟩
 obtain ⟨aa7,ac7,r7,_⟩:=S7.row
 have H7:=(hIq S7 (aIq r7 ht'))
 clear S7 r7 ht'
 dsimp only
 go_step
 refine wpList_nil ?_
 change _ ∧ _
 refine ⟨⟨_,H7.out.2.1⟩,?_⟩
 refine plan_look (v:=.bool true) rfl rfl (fun w0 hS => (by clear hS; go_simp; try rfl)) ?_
 simp only [Act.put,nAq,nBq,nCq]
 refine plan_end ?_; simp only [List.drop_succ_cons,List.drop_zero]
 go_wp2
 refine NoPanic.normal ?_
 go_wp2
 go_ret
 refine ⟨rfl,(holdS σ root).2,root,L,A ++ [(root,L)],?_,HS.out.2.2.1⟩
 have:=H7.out.1
 rw [H7.out.2.2,H6.out.2.2] at this
 exact this
end
end Go.Proofs.YtmeglndnkdgkoaaGreat.Store

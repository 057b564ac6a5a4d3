/- Proved contracts and plain laws of the layers below, in one text. -/
import Derived.Test.YtmeglndnkdgkoaaGreatQd33
set_option maxHeartbeats 3200000
set_option maxRecDepth 100000
set_option linter.unusedVariables false
namespace Go.Proofs.YtmeglndnkdgkoaaGreat.Store
open Go Go.RowKit Go.Proofs.YtmeglndnkdgkoaaGreat Go.Proofs.YtmeglndnkdgkoaaGreat.ShaW Go.Proofs.YtmeglndnkdgkoaaGreat.Path
def putErr (σ:SlabSt Nd) (r:Int) (bs:List UInt8):Int:=if 1024 < bs.length then 4 else if atHand σ r ≠ 0 then atHand σ r else if fitsJ σ 1 = false then 9 else 0
def PutTo (σ:SlabSt Nd) (r:Int) (key bs:List UInt8) (x:Int) (σ':SlabSt Nd):Prop :=
 (putErr σ r bs ≠ 0 ∧ x = 0 ∧ σ' = σ) ∨ (putErr σ r bs = 0 ∧ ∃ l e1,On (sk σ) key r 0 l e1 ∧ ((sameS σ key bs e1 = true ∧ x = r ∧ σ' = σ) ∨ (sameS σ key bs e1 = false ∧ ∃ v,x = (putS σ r key bs v l e1).1 ∧ σ' = (putS σ r key bs v l e1).2)))
def costErr (σ:SlabSt Nd) (r:Int) (bs:List UInt8):Int:=if 1024 < bs.length then 4 else atHand σ r
def CostTo (σ:SlabSt Nd) (r:Int) (key bs:List UInt8) (x:Int):Prop :=
 (costErr σ r bs ≠ 0 ∧ x = 0) ∨ (costErr σ r bs = 0 ∧ ∃ l e1,On (sk σ) key r 0 l e1 ∧ x = if sameS σ key bs e1 = true then (0:Int) else ((putCost σ key l e1:Nat):Int))
section
variable {w0 w w' : World} {s b : Nat} {σ σ' : SlabSt Nd} {G : Nat → Prop} {r x : Int} {key bs : List UInt8}
theorem putErr_zero (h:putErr σ r bs = 0):bs.length ≤ 1024 ∧ atHand σ r = 0 ∧ fitsJ σ 1 = true:=by
 unfold putErr at h
 by_cases h1:1024 < bs.length
 · rw [if_pos h1] at h; exact absurd h (by decide)
 rw [if_neg h1] at h
 by_cases h2:atHand σ r = 0
 · rw [if_neg (by simpa using h2)] at h
   refine ⟨by omega,h2,?_⟩
   cases h3:fitsJ σ 1 with
   | true => rfl
   | false => rw [if_pos h3] at h; exact absurd h (by decide)
 rw [if_pos h2] at h; exact absurd h h2
theorem costErr_zero (h:costErr σ r bs = 0):bs.length ≤ 1024 ∧ atHand σ r = 0:=by
 unfold costErr at h
 by_cases h1:1024 < bs.length
 · rw [if_pos h1] at h; exact absurd h (by decide)
 rw [if_neg h1] at h
 exact ⟨by omega,h⟩
theorem Put_any (h:Ow w0 w s σ G) (GG:Good σ) (r:Int) (hk:key.length = 32) {vv:Value} (hb:Bytes w vv bs) (hv:bs ≠ [] → ∀ k,vv.ownBlock = some k → k < w.heap.size) :
 Calls Tryz.prog 80 #[.pointer (some ⟨s,0,none⟩),.int .i64 r,.agg (brow key),vv] w fun e w' => ∃ x σ',e = .returned (.tuple #[.int .i64 x,.int .i64 (putErr σ r bs)]) ∧ PutTo σ r key bs x σ' ∧ Ow w0 w' s σ' G ∧ But G w w':=by
 obtain ⟨F,hAt⟩:=h.at
 by_cases he:putErr σ r bs = 0
 · obtain ⟨h1,h2,h3⟩:=putErr_zero he
   have hre:=rootErr_hand h2
   obtain ⟨t,l,e1,_,ho,_⟩:=root_on GG key hre
   cases hs:sameS σ key bs e1 with
   | true =>
    refine (Put_same hAt GG r key hk hb h1 h2 hre h3 ho hs).mono fun e w' ⟨he',ha⟩ => ⟨r,σ,?_,.inr ⟨he,l,e1,ho,.inl ⟨hs,rfl,rfl⟩⟩,h.adds ha,Adds.but ha⟩
    rw [he]; exact he'
   | false =>
    refine (Put_ok h GG r key hk hb hv h1 h2 hre h3 ho hs).mono fun e w' ⟨v,he',ho',hb'⟩ => ⟨_,_,?_,.inr ⟨he,l,e1,ho,.inr ⟨hs,v,rfl,rfl⟩⟩,ho',hb'⟩
    rw [he]; exact he'
 have key1:∀ {e:Ending} {w':World},e = .returned (.tuple #[.int .i64 0,.int .i64 (putErr σ r bs)]) ∧ Adds w w' → ∃ x σ',e = .returned (.tuple #[.int .i64 x,.int .i64 (putErr σ r bs)]) ∧ PutTo σ r key bs x σ' ∧ Ow w0 w' s σ' G ∧ But G w w':=fun ⟨he',ha⟩ =>
  ⟨0,σ,he',.inl ⟨he,rfl,rfl⟩,h.adds ha,Adds.but ha⟩
 by_cases h1:1024 < bs.length
 · have e0:putErr σ r bs = 4:=if_pos h1
   obtain ⟨ao,cap,rfl,_⟩:=hb.form
   rw [e0] at key1 ⊢
   exact (Put_long hAt r (brow key) ao bs.length cap h1).mono fun e w' h => key1 h
 by_cases h2:atHand σ r = 0
 · have h3:fitsJ σ 1 = false:=by
    cases h3:fitsJ σ 1 with
    | false => rfl
    | true => exact absurd (by unfold putErr; rw [if_neg h1,if_neg (by simpa using h2),if_neg (by rw [h3]; simp)]) he
   have e0:putErr σ r bs = 9:=by unfold putErr; rw [if_neg h1,if_neg (by simpa using h2),if_pos h3]
   rw [e0] at key1 ⊢
   exact (Put_full hAt r key hb (by omega) h2 h3).mono fun e w' h => key1 h
 have e0:putErr σ r bs = atHand σ r:=by unfold putErr; rw [if_neg h1,if_pos h2]
 rw [e0] at key1 ⊢
 exact (Put_hand hAt r key hb (by omega) h2).mono fun e w' h => key1 h
theorem Put9_any (h:ROw w0 w b σ G) (GG:Good σ) (r:Int) (hk:key.length = 32) {vv:Value} (hb:Bytes w vv bs) (hP:PutTo σ r key bs x σ') :
 Calls Tryz.prog 81 #[.pointer (some ⟨b,0,none⟩),.int .i64 r,.agg (brow key),vv] w fun e w' => e = .returned (.tuple #[.int .i64 x,.int .i64 (putErr σ r bs)]) ∧ ROw w0 w' b σ' G ∧ But G w w':=by
 rcases hP with ⟨he,rfl,rfl⟩ | ⟨he,l,e1,ho,h4⟩
 · obtain ⟨ao,cap,rfl,_⟩:=hb.form
   have key1:∀ {e:Ending} {w':World},e = .returned (.tuple #[.int .i64 0,.int .i64 (putErr σ' r bs)]) ∧ Adds w w' → e = .returned (.tuple #[.int .i64 0,.int .i64 (putErr σ' r bs)]) ∧ ROw w0 w' b σ' G ∧ But G w w':=fun ⟨he',ha⟩ => ⟨he',h.adds ha,Adds.but ha⟩
   by_cases h1:1024 < bs.length
   · have e0:putErr σ' r bs = 4:=if_pos h1
     rw [e0] at key1 ⊢
     exact (Put9_long h r (brow key) ao bs.length cap h1).mono fun e w' h => key1 h
   by_cases h2:atHand σ' r = 0
   · have h3:fitsJ σ' 1 = false:=by
      cases h3:fitsJ σ' 1 with
      | false => rfl
      | true => exact absurd (by unfold putErr; rw [if_neg h1,if_neg (by simpa using h2),if_neg (by rw [h3]; simp)]) he
     have e0:putErr σ' r bs = 9:=by unfold putErr; rw [if_neg h1,if_neg (by simpa using h2),if_pos h3]
     rw [e0] at key1 ⊢
     exact (Put9_full h GG r (brow key) ao bs.length cap (by omega) h2 h3).mono fun e w' h => key1 h
   have e0:putErr σ' r bs = atHand σ' r:=by unfold putErr; rw [if_neg h1,if_pos h2]
   rw [e0] at key1 ⊢
   exact (Put9_hand h GG r (brow key) ao bs.length cap (by omega) h2).mono fun e w' h => key1 h
 obtain ⟨h1,h2,h3⟩:=putErr_zero he
 rw [he]
 rcases h4 with ⟨hs,rfl,rfl⟩ | ⟨hs,v,rfl,rfl⟩
 · exact (Put9_same h GG x key hk hb h1 h2 h3 ho hs).mono fun e w' ⟨he',ha⟩ => ⟨he',h.adds ha,Adds.but ha⟩
 exact Put9_ok h GG r key hk hb h1 h2 h3 ho hs v
theorem Cost_any (h:Ow w0 w s σ G) (GG:Good σ) (r:Int) (hk:key.length = 32) {vv:Value} (hb:Bytes w vv bs) :
 Calls Tryz.prog 78 #[.pointer (some ⟨s,0,none⟩),.int .i64 r,.agg (brow key),vv] w fun e w' => ∃ x,e = .returned (.tuple #[.int .i64 x,.int .i64 (costErr σ r bs)]) ∧ CostTo σ r key bs x ∧ Adds w w':=by
 obtain ⟨F,hAt⟩:=h.at
 by_cases he:costErr σ r bs = 0
 · obtain ⟨h1,h2⟩:=costErr_zero he
   have hre:=rootErr_hand h2
   obtain ⟨t,l,e1,_,ho,_⟩:=root_on GG key hre
   refine (Cost_ok hAt GG r key hk hb h1 h2 hre ho).mono fun e w' ⟨he',ha⟩ => ⟨_,?_,.inr ⟨he,l,e1,ho,rfl⟩,ha⟩
   rw [he]; exact he'
 obtain ⟨ao,cap,rfl,_⟩:=hb.form
 by_cases h1:1024 < bs.length
 · have e0:costErr σ r bs = 4:=if_pos h1
   refine (Cost_long hAt r (brow key) ao bs.length cap h1).mono fun e w' ⟨he',ha⟩ => ⟨0,?_,.inl ⟨he,rfl⟩,ha⟩
   rw [e0]; exact he'
 have e0:costErr σ r bs = atHand σ r:=if_neg h1
 refine (Cost_hand hAt r (brow key) ao bs.length cap (by omega) (by rw [← e0]; exact he)).mono fun e w' ⟨he',ha⟩ => ⟨0,?_,.inl ⟨he,rfl⟩,ha⟩
 rw [e0]; exact he'
theorem Cost9_any (h:ROw w0 w b σ G) (GG:Good σ) (r:Int) (hk:key.length = 32) {vv:Value} (hb:Bytes w vv bs) (hC:CostTo σ r key bs x) :
 Calls Tryz.prog 79 #[.pointer (some ⟨b,0,none⟩),.int .i64 r,.agg (brow key),vv] w fun e w' => e = .returned (.tuple #[.int .i64 x,.int .i64 (costErr σ r bs)]) ∧ Adds w w':=by
 rcases hC with ⟨he,rfl⟩ | ⟨he,l,e1,ho,rfl⟩
 · obtain ⟨ao,cap,rfl,_⟩:=hb.form
   by_cases h1:1024 < bs.length
   · have e0:costErr σ r bs = 4:=if_pos h1
     rw [e0]
     exact Cost9_long h r (brow key) ao bs.length cap h1
   have e0:costErr σ r bs = atHand σ r:=if_neg h1
   rw [e0]
   exact Cost9_hand h GG r (brow key) ao bs.length cap (by omega) (by rw [← e0]; exact he)
 obtain ⟨h1,h2⟩:=costErr_zero he
 rw [he]
 exact Cost9_ok h GG r key hk hb h1 h2 ho
theorem PutTo.good (h:PutTo σ r key bs x σ') (GG:Good σ) (hk:key.length = 32):Good σ':=by
 rcases h with ⟨_,_,rfl⟩ | ⟨_,l,e1,ho,⟨_,_,rfl⟩ | ⟨_,v,_,rfl⟩⟩
 · exact GG
 · exact GG
 exact GG.put r hk bs v l e1
theorem PutTo.roots {L:Ents} {R:List (Int × Ents)} (h:PutTo σ r key bs x σ') (D:Roots σ ((r,L) :: R)) (hk:key.length = 32) (htot:total σ + 600 < 1073741824) (h0:putErr σ r bs = 0) :
 WroteR σ σ' r x 258 600 ∧ Roots σ' ((x,upd L key bs) :: R) ∧ x ≠ 0:=by
 have D0:Db σ r L:=D.db (List.mem_cons_self ..)
 have hz:=D0.good.fit.zero
 obtain ⟨h1,h2,h3⟩:=putErr_zero h0
 have hin:=ins_tree (v:=bs) 256 (Nat.le_refl _) (Ents.Ok.any D0.nodup D0.len key) hk
 rw [Nat.sub_self] at hin
 obtain ⟨hd1,hd2⟩:=upd_fine (bs:=bs) D0.nodup D0.len hk
 have hroom:live σ + 258 ≤ σ.room:=by
  rw [fitsJ_one,D0.good.used] at h3
  exact of_decide_eq_true h3
 rcases h with ⟨he,_⟩ | ⟨_,l,e1,ho,⟨hs,rfl,rfl⟩ | ⟨hs,v,rfl,rfl⟩⟩
 · exact absurd h0 he
 · obtain ⟨y,hy,g1,g2,g3⟩:=sameS_end hs
   have hr0:x ≠ 0:=fun e => by
    subst e
    obtain ⟨_,e⟩:=ho.zero hz
    rw [e,hz] at hy
    cases hy
   have hins:=ho.ins_same hz D0.rep hy g1 g2
   rw [g3] at hins
   have hst:=Step.refl D0.good x
   exact ⟨⟨hst,Nat.le_add_right _ _,Nat.le_add_right _ _,rfl⟩,D.step hst (by rw [← hin,hins]; exact D0.rep) hd1 hd2,hr0⟩
 have hc:=putCost_le D0.good hk ho
 have hM:=PutMid.made D0.good hk bs v h1 D0.rep ho (by omega) htot
 have hP:=put_spec D0.good hk bs v h1 D0.rep D0.held ho (by omega) htot
 have hst:Step σ (putS σ r key bs v l e1).2 r (putS σ r key bs v l e1).1:=hM.step D0.good D0.held
 exact ⟨⟨hst,by have:=hP.live; omega,by have:=hP.total; omega,hP.room⟩,D.step hst (by rw [← hin]; exact hP.rep) hd1 hd2,hP.ne⟩
end
def ScAt (w0 w:World) (c s b:Nat) (σ τ:SlabSt Nd) (root:Int) (aside:List Int) (G:Nat → Prop):Prop :=
 ∃ ρ F1 F2 vA,At w s F1 σ ∧ RAt w b F2 ρ ∧ Lk τ ρ ∧ w.heap[c]? = some (.cells #[.pointer (some ⟨s,0,none⟩),.pointer (some ⟨b,0,none⟩),.int .i64 root,vA] 45 (0,0)) ∧
  w.ownsRow 0 3 1 vA aside.length (hl aside) ∧ (∀ k,F1 k → w0.heap.size ≤ k) ∧ (∀ k,F2 k → w0.heap.size ≤ k ∧ ¬ F1 k) ∧ (w0.heap.size ≤ c ∧ ¬ F1 c ∧ ¬ F2 c) ∧
  (∀ k,vA.ownBlock = some k → w0.heap.size ≤ k ∧ k ≠ c ∧ ¬ F1 k ∧ ¬ F2 k) ∧ Adds w0 w ∧ ∀ k,G k → ¬ F1 k ∧ ¬ F2 k ∧ k ≠ c ∧ vA.ownBlock ≠ some k ∧ k < w.heap.size
section
variable {w0 w w' : World} {c s b : Nat} {σ σ' τ τ' : SlabSt Nd} {root : Int} {aside : List Int} {G : Nat → Prop}
theorem ScAt.world (h:ScAt w0 w c s b σ τ root aside G):Adds w0 w:=by obtain ⟨_,_,_,_,_,_,_,_,_,_,_,_,_,h,_⟩:=h; exact h
theorem ScAt.row (h:ScAt w0 w c s b σ τ root aside G):∃ ao cap,w.heap[c]? = some (.cells #[.pointer (some ⟨s,0,none⟩),.pointer (some ⟨b,0,none⟩),.int .i64 root,.slice ao aside.length cap] 45 (0,0)) ∧ w.ownsRow 0 3 1 (.slice ao aside.length cap) aside.length (hl aside):=by
 obtain ⟨_,_,_,vA,_,_,_,h4,h5,_⟩:=h
 obtain ⟨ao,cap,rfl⟩:=owns_form h5
 exact ⟨ao,cap,h4,h5⟩
theorem ScAt.adds (h:ScAt w0 w c s b σ τ root aside G) (a:Adds w w'):ScAt w0 w' c s b σ τ root aside G:=by
 obtain ⟨ρ,F1,F2,vA,h1,h2,h3,h4,h5,h6,h7,h8,h9,h10,h11⟩:=h
 exact ⟨ρ,F1,F2,vA,h1.adds a,h2.adds a,h3,a.row h4 id,a.owns h5 (fun _ _ h => h),h6,h7,h8,h9,h10.trans a (fun _ => fEq),fun k hk => by
  obtain ⟨q1,q2,q3,q4,q5⟩:=h11 k hk
  exact ⟨q1,q2,q3,q4,Nat.lt_of_lt_of_le q5 a.size⟩⟩
theorem ScAt.less {G':Nat → Prop} (h:ScAt w0 w c s b σ τ root aside G) (hG:∀ k,G' k → G k):ScAt w0 w c s b σ τ root aside G':=by
 obtain ⟨ρ,F1,F2,vA,h1,h2,h3,h4,h5,h6,h7,h8,h9,h10,h11⟩:=h
 exact ⟨ρ,F1,F2,vA,h1,h2,h3,h4,h5,h6,h7,h8,h9,h10,fun k hk => h11 k (hG k hk)⟩
theorem At.lt {F:Nat → Prop} (h:At w s F σ):∀ k,F k → k < w.heap.size:=by obtain ⟨_,_,_,_,_,_,_,q⟩:=h; exact q
theorem ScAt.more (h:ScAt w0 w c s b σ τ root aside G) (a:Adds w w') {G':Nat → Prop} (hG:∀ k,G' k → G k ∨ (w.heap.size ≤ k ∧ k < w'.heap.size)):ScAt w0 w' c s b σ τ root aside G':=by
 obtain ⟨ρ,F1,F2,vA,h1,h2,h3,h4,h5,h6,h7,h8,h9,h10,h11⟩:=h
 have l1:=At.lt h1
 have l2:=RAt.lt h2
 have lc:=row_lt h4
 refine ⟨ρ,F1,F2,vA,h1.adds a,h2.adds a,h3,a.row h4 id,a.owns h5 (fun _ _ h => h),h6,h7,h8,h9,h10.trans a (fun _ => fEq),fun k hk => ?_⟩
 rcases hG k hk with hk | ⟨hk,hk'⟩
 · obtain ⟨q1,q2,q3,q4,q5⟩:=h11 k hk
   exact ⟨q1,q2,q3,q4,Nat.lt_of_lt_of_le q5 a.size⟩
 exact ⟨fun h => by have:=l1 k h; omega,fun h => by have:=l2 k h; omega,by omega,fun h => by have:=(h5.lt k h).2; omega,hk'⟩
theorem ScAt.impl (h:ScAt w0 w c s b σ τ root aside G) {f:Nat} {args:Array Value} {P:Ending → SlabSt Nd → Prop}
 (hc:∀ G',Ow w0 w s σ G' → Calls Tryz.prog f args w fun e w' => ∃ σ',P e σ' ∧ Ow w0 w' s σ' G' ∧ But G' w w') :
 Calls Tryz.prog f args w fun e w' => ∃ σ',P e σ' ∧ ScAt w0 w' c s b σ' τ root aside G ∧ But G w w':=by
 obtain ⟨ρ,F1,F2,vA,h1,h2,h3,h4,h5,h6,h7,h8,h9,h10,h11⟩:=h
 have l2:=RAt.lt h2
 refine (hc (fun k => k = c ∨ vA.ownBlock = some k ∨ F2 k ∨ G k) ⟨F1,h1,h6,h10,fun k hk => ?_⟩).mono ?_
 · rcases hk with rfl | hk | hk | hk
   · exact ⟨h8.2.1,row_lt h4⟩
   · exact ⟨(h9 k hk).2.2.1,(h5.lt k hk).2⟩
   · exact ⟨(h7 k hk).2,l2 k hk⟩
   exact ⟨(h11 k hk).1,(h11 k hk).2.2.2.2⟩
 rintro e w' ⟨σ',hP,⟨F1',g1,g2,g3,g4⟩,hB⟩
 refine ⟨σ',hP,⟨ρ,F1',F2,vA,g1,h2.keep hB (fun k hk hn => hn (.inr (.inr (.inl hk)))),h3,hB.row h4 (.inl rfl),Ch.owns hB h5 (fun k hk hn => hn (.inr (.inl hk))),g2,fun k hk => ⟨(h7 k hk).1,(g4 k (.inr (.inr (.inl hk)))).1⟩,⟨h8.1,(g4 c (.inl rfl)).1,h8.2.2⟩,fun k hk => ⟨(h9 k hk).1,(h9 k hk).2.1,(g4 k (.inr (.inl hk))).1,(h9 k hk).2.2.2⟩,g3,fun k hk => ?_⟩,hB.less (fun k hk => .inr (.inr (.inr hk)))⟩
 obtain ⟨q1,q2,q3,q4,q5⟩:=h11 k hk
 exact ⟨(g4 k (.inr (.inr (.inr hk)))).1,q2,q3,q4,(g4 k (.inr (.inr (.inr hk)))).2⟩
theorem ScAt.refr (h:ScAt w0 w c s b σ τ root aside G) {f:Nat} {args:Array Value} {P:Ending → SlabSt Nd → Prop}
 (hc:∀ G',ROw w0 w b τ G' → Calls Tryz.prog f args w fun e w' => ∃ τ',P e τ' ∧ ROw w0 w' b τ' G' ∧ But G' w w') :
 Calls Tryz.prog f args w fun e w' => ∃ τ',P e τ' ∧ ScAt w0 w' c s b σ τ' root aside G ∧ But G w w':=by
 obtain ⟨ρ,F1,F2,vA,h1,h2,h3,h4,h5,h6,h7,h8,h9,h10,h11⟩:=h
 have l1:=At.lt h1
 refine (hc (fun k => k = c ∨ vA.ownBlock = some k ∨ F1 k ∨ G k) ⟨ρ,F2,h2,h3,fun k hk => (h7 k hk).1,h10,fun k hk => ?_⟩).mono ?_
 · rcases hk with rfl | hk | hk | hk
   · exact ⟨h8.2.2,row_lt h4⟩
   · exact ⟨(h9 k hk).2.2.2,(h5.lt k hk).2⟩
   · exact ⟨fun h => (h7 k h).2 hk,l1 k hk⟩
   exact ⟨(h11 k hk).2.1,(h11 k hk).2.2.2.2⟩
 rintro e w' ⟨τ',hP,⟨ρ',F2',g1,gL,g2,g3,g4⟩,hB⟩
 refine ⟨τ',hP,⟨ρ',F1,F2',vA,h1.keep hB (fun k hk hn => hn (.inr (.inr (.inl hk)))),g1,gL,hB.row h4 (.inl rfl),Ch.owns hB h5 (fun k hk hn => hn (.inr (.inl hk))),h6,fun k hk => ⟨g2 k hk,fun hf => (g4 k (.inr (.inr (.inl hf)))).1 hk⟩,⟨h8.1,h8.2.1,(g4 c (.inl rfl)).1⟩,fun k hk => ⟨(h9 k hk).1,(h9 k hk).2.1,(h9 k hk).2.2.1,(g4 k (.inr (.inl hk))).1⟩,g3,fun k hk => ?_⟩,hB.less (fun k hk => .inr (.inr (.inr hk)))⟩
 obtain ⟨q1,q2,q3,q4,q5⟩:=h11 k hk
 exact ⟨q1,(g4 k (.inr (.inr (.inr hk)))).1,q3,q4,(g4 k (.inr (.inr (.inr hk)))).2⟩
theorem ScAt.ow (h:ScAt w0 w c s b σ τ root aside G):Ow w0 w s σ G:=by
 obtain ⟨ρ,F1,F2,vA,h1,h2,h3,h4,h5,h6,h7,h8,h9,h10,h11⟩:=h
 exact ⟨F1,h1,h6,h10,fun k hk => ⟨(h11 k hk).1,(h11 k hk).2.2.2.2⟩⟩
theorem ScAt.row9 (h:ScAt w0 w c s b σ τ root aside G):ROw w0 w b τ G:=by
 obtain ⟨ρ,F1,F2,vA,h1,h2,h3,h4,h5,h6,h7,h8,h9,h10,h11⟩:=h
 exact ⟨ρ,F2,h2,h3,fun k hk => (h7 k hk).1,h10,fun k hk => ⟨(h11 k hk).2.1,(h11 k hk).2.2.2.2⟩⟩
theorem ScAt.setRoot (h:ScAt w0 w c s b σ τ root aside G) (r:Int):ScAt w0 (w.setCell ⟨c,2,none⟩ (.int .i64 r)) c s b σ τ r aside G:=by
 obtain ⟨ρ,F1,F2,vA,h1,h2,h3,h4,h5,h6,h7,h8,h9,h10,h11⟩:=h
 have hC:Ch (fun k => k = c) w (w.setCell ⟨c,2,none⟩ (.int .i64 r)):=(Ch.refl (fun k => k = c) w).setCell (p:=⟨c,2,none⟩) (.inl rfl) _
 have h4':=row_set_same h4 2 (.int .i64 r)
 refine ⟨ρ,F1,F2,vA,h1.keep hC (fun k hk e => h8.2.1 (e ▸ hk)),h2.keep hC (fun k hk e => h8.2.2 (e ▸ hk)),h3,h4',hC.owns h5 (fun k hk e => (h9 k hk).2.1 e),h6,h7,h8,h9,h10.setCell (p:=⟨c,2,none⟩) (.inr h8.1) _,fun k hk => ?_⟩
 obtain ⟨q1,q2,q3,q4,q5⟩:=h11 k hk
 exact ⟨q1,q2,q3,q4,by simpa using q5⟩
theorem ScAt.setAside (h:ScAt w0 w c s b σ τ root aside G) {ao:Option Addr} {n cap:Nat} (hr:w.heap[c]? = some (.cells #[.pointer (some ⟨s,0,none⟩),.pointer (some ⟨b,0,none⟩),.int .i64 root,.slice ao n cap] 45 (0,0)))
 {w4:World} {v':Value} {aside':List Int} (hch:Ch (fun k => (Value.slice ao n cap).ownBlock = some k) w w4) (own:w4.ownsRow 0 3 1 v' aside'.length (hl aside')) (ob:v'.ownBlock = (Value.slice ao n cap).ownBlock ∨ ∀ k,v'.ownBlock = some k → w.heap.size ≤ k) :
 ScAt w0 (w4.setCell ⟨c,3,none⟩ v') c s b σ τ root aside' G:=by
 obtain ⟨ρ,F1,F2,vA,h1,h2,h3,h4,h5,h6,h7,h8,h9,h10,h11⟩:=h
 rw [hr] at h4
 simp only [Option.some.injEq,Obj.cells.injEq,and_true,true_and,Array.mk.injEq,List.cons.injEq,and_self] at h4
 subst h4
 have l1:=At.lt h1
 have l2:=RAt.lt h2
 have lc:=row_lt hr
 have r4:=hch.row hr (fun e => (h9 c e).2.1 rfl)
 have r5:=row_set_same r4 3 v'
 have hC:Ch (fun k => k = c ∨ (Value.slice ao n cap).ownBlock = some k) w (w4.setCell ⟨c,3,none⟩ v'):=(hch.mono (G:=fun k => k = c ∨ (Value.slice ao n cap).ownBlock = some k) (fun _ _ h => .inr h)).setCell (p:=⟨c,3,none⟩) (.inl (.inl rfl)) _
 have hs5:(w4.setCell ⟨c,3,none⟩ v').heap.size = w4.heap.size:=by simp
 have hsz:=hch.size
 have hv:∀ k,v'.ownBlock = some k → w0.heap.size ≤ k ∧ k ≠ c ∧ ¬ F1 k ∧ ¬ F2 k ∧ ∀ j,G j → j ≠ k:=fun k hk => by
  rcases ob with e | e
  · rw [e] at hk
    exact ⟨(h9 k hk).1,(h9 k hk).2.1,(h9 k hk).2.2.1,(h9 k hk).2.2.2,fun j hj e => (h11 j hj).2.2.2.1 (e ▸ hk)⟩
  have:=e k hk
  have:=h10.size
  exact ⟨by omega,by omega,fun h => by have:=l1 k h; omega,fun h => by have:=l2 k h; omega,fun j hj e => by have:=(h11 j hj).2.2.2.2; omega⟩
 refine ⟨ρ,F1,F2,v',h1.keep hC (fun k hk e => ?_),h2.keep hC (fun k hk e => ?_),h3,r5,((Ch.refl (fun k => k = c) w4).setCell (p:=⟨c,3,none⟩) (.inl rfl) _).owns own (fun k hk e => (hv k hk).2.1 e),h6,h7,h8,fun k hk => ⟨(hv k hk).1,(hv k hk).2.1,(hv k hk).2.2.1,(hv k hk).2.2.2.1⟩,h10.trans hC (fun k hk => .inr ?_),fun k hk => ?_⟩
 · rcases e with rfl | e
   · exact h8.2.1 hk
   exact (h9 k e).2.2.1 hk
 · rcases e with rfl | e
   · exact h8.2.2 hk
   exact (h9 k e).2.2.2 hk
 · rcases hk with rfl | e
   · exact h8.1
   exact (h9 k e).1
 obtain ⟨q1,q2,q3,q4,q5⟩:=h11 k hk
 exact ⟨q1,q2,q3,fun e => (hv k e).2.2.2.2 k hk rfl,by rw [hs5]; omega⟩
end
end Go.Proofs.YtmeglndnkdgkoaaGreat.Store
namespace Go.Proofs.YtmeglndnkdgkoaaGreat.Store
open Go Go.RowKit Go.Sort Go.Proofs.YtmeglndnkdgkoaaGreat Go.Proofs.YtmeglndnkdgkoaaGreat.ShaW Go.Proofs.YtmeglndnkdgkoaaGreat.Path Go.Proofs.YtmeglndnkdgkoaaGreat.Law9
def BytesRow (w:World) (n0:Nat) (v:Value) (bs:List UInt8):Prop :=
 (v = .slice none 0 0 ∧ bs = []) ∨ ∃ g c all,v = .slice (some ⟨g,0,none⟩) bs.length c ∧ n0 ≤ g ∧ w.heap[g]? = some (.cells (brow all) 5 (0,0)) ∧ all.length = c ∧ all.take bs.length = bs ∧ c ≤ maxLen ∧ bs.length ≤ c
section
variable {w w' : World} {n0 n1 : Nat} {v : Value} {bs : List UInt8}
theorem BytesRow.keep (h:BytesRow w n0 v bs) {F:Nat → Prop} (c:Ch F w w') (hd:∀ k,v.ownBlock = some k → ¬ F k):BytesRow w' n0 v bs:=by
 rcases h with h | ⟨g,cp,all,rfl,h1,h2,h3⟩
 · exact .inl h
 exact .inr ⟨g,cp,all,rfl,h1,c.row h2 (hd g rfl),h3⟩
theorem BytesRow.base (h:BytesRow w n0 v bs) (hb:∀ k,v.ownBlock = some k → n1 ≤ k):BytesRow w n1 v bs:=by
 rcases h with h | ⟨g,cp,all,rfl,h1,h2,h3⟩
 · exact .inl h
 exact .inr ⟨g,cp,all,rfl,hb g rfl,h2,h3⟩
theorem BytesRow.lt (h:BytesRow w n0 v bs):∀ k,v.ownBlock = some k → n0 ≤ k ∧ k < w.heap.size:=fun k hk => by
 rcases h with ⟨rfl,_⟩ | ⟨g,cp,all,rfl,h1,h2,_⟩
 · cases hk
 cases hk
 exact ⟨h1,row_lt h2⟩
theorem brow_take_get {all bs:List UInt8} {i:Nat} {x:UInt8} (h:all.take bs.length = bs) (hx:bs[i]? = some x):(brow all)[i]? = some (bv x):=by
 have hi:=(List.getElem?_eq_some_iff.1 hx).1
 have:all[i]? = some x:=by rw [← h,List.getElem?_take_of_lt hi] at hx; exact hx
 unfold brow
 rw [List.getElem?_toArray,List.getElem?_map,this]
 rfl
theorem BytesRow.bytes (h:BytesRow w n0 v bs):Bytes w v bs:=by
 rcases h with ⟨rfl,rfl⟩ | ⟨g,cp,all,rfl,h1,h2,h3,h4,h5,h6⟩
 · exact Bytes.nil w
 exact ⟨_,cp,rfl,h6,h5,fun j y hy => ⟨g,0,rfl,by rw [Nat.zero_add]; exact row_cell h2 (brow_take_get h4 hy)⟩⟩
end
theorem zero_bytes (k:Nat):Builtin.zeroCells #[.int .u8 0] k = brow (List.replicate k 0):=by
 unfold Builtin.zeroCells brow
 apply Array.ext'
 simp only [List.size_toArray,List.length_cons,List.length_nil,Nat.zero_add,Nat.mul_one,Array.toList_map,Array.toList_range,List.map_replicate]
 apply List.ext_getElem
 · simp
 intro i h1 h2
 simp [Nat.mod_one,bv]
theorem brow_app (a b:List UInt8):brow a ++ brow b = brow (a ++ b):=by simp [brow]
theorem run_append_copy' {P:Program} (w:World) (t ty e:TypeId) (he:e = 5) (i:TypeInfo) (ht:P.underlying t = some (.slice e)) (hi:P.info? e = some i) (hz:i.zero = some (.int .u8 0)) (hsize:i.size = 1) (hby:i.bytes = 1)
 (xv:Value) (bs:List UInt8) (hb:Bytes w xv bs) (hlen:bs.length ≤ 140737488355328) :
 ∃ v' w',(Builtin.append_ #[t,t] ty #[.slice none 0 0,xv]).run P w = .ok v' w' ∧ BytesRow w' w.heap.size v' bs ∧ Adds w w':=by
 subst he
 obtain ⟨ao,cap,rfl,hcap,hcm,hat⟩:=hb
 cases bs with
 | nil =>
  refine ⟨_,w,run_append_nothing w t t ty _ i ht hi none 0 0 (Nat.le_refl _) _ ?_,.inl ⟨rfl,rfl⟩,Ch.refl _ _⟩
  cases ao with
  | none => exact Src.ofNil w ht cap
  | some ad => exact Src.ofSlice w ht ad 0 cap [] (by simp) (fun j u h => by simp at h) (fun u h => by cases h)
 | cons x bs =>
  obtain ⟨g,off,rfl,_⟩:=hat 0 x rfl
  have hnews:∀ j u,((x :: bs).map bv)[j]? = some u → w.cell? ((⟨g,off,none⟩:Addr).add j) = some u:=fun j u hu => by
   rw [List.getElem?_map] at hu
   obtain ⟨y,hy,rfl⟩:=Option.map_eq_some_iff.1 hu
   obtain ⟨g',o',he,hc⟩:=hat j y hy
   cases he
   rw [add_plain]
   exact hc
  have hr:=run_append_nil (P:=P) w t ty _ i (.int .u8 0) ht hi hz ⟨g,off,none⟩ (x :: bs).length cap ((x :: bs).map bv) (by simp [hsize]) hnews (by simp) (by omega) (by rw [hby]; omega)
  have hge:=grownCap_ge w (x :: bs).length 0 5
  have hcm2:grownCap w (x :: bs).length 0 5 ≤ maxLen:=grownCap_le_maxLen w _ 0 _ (by unfold maxLen; omega)
  obtain ⟨C,hC⟩:∃ C,C = grownCap w (x :: bs).length 0 5:=⟨_,rfl⟩
  rw [← hC] at hr hge hcm2
  refine ⟨_,_,hr,.inr ⟨w.heap.size,C,(x :: bs) ++ List.replicate (C - (x :: bs).length) 0,rfl,Nat.le_refl _,?_,?_,?_,hcm2,hge⟩,((Ch.refl _ _).drew).alloc _⟩
  · rw [show (Value.int .u8 0).cells = #[.int .u8 0] from rfl,zero_bytes,show ((x :: bs).map bv).toArray = brow (x :: bs) from rfl,brow_app]
    exact heap_alloc_new w.drew _
  · rw [List.length_append,List.length_replicate]; omega
  exact List.take_left
theorem SameBytes_ok {w:World} {a b:Value} {xs ys:List UInt8} (ha:Bytes w a xs) (hb:Bytes w b ys) :
 Calls Tryz.prog 103 #[a,b] w fun e w' => e = .returned (.bool (decide (xs = ys))) ∧ w' = w:=by
 have c1:=conv_bytes ha
 have c2:=conv_bytes hb
 obtain ⟨ao,ca,rfl,_⟩:=ha.form
 obtain ⟨bo,cb,rfl,_⟩:=hb.form
 obtain ⟨A,hA⟩:∃ A,A = bstr xs:=⟨_,rfl⟩
 obtain ⟨B,hB⟩:∃ B,B = bstr ys:=⟨_,rfl⟩
 have hq:(A.toList == B.toList) = decide (xs = ys):=by rw [hA,hB]; exact bstr_eq xs ys
 rw [← hA] at c1
 rw [← hB] at c2
 obtain ⟨r,hr⟩:∃ r,r = decide (xs = ys):=⟨_,rfl⟩
 rw [← hr] at hq ⊢
 clear hA hB ha hb hr
 go_enter Tryz.func103,Tryz.ntmps103
 go_wp2
 go_ret
 exact ⟨by first | rw [hq] | rfl,rfl⟩
def over (x:UInt8):UInt8:=x ^^^ 90
theorem over_bits (x:UInt8):bits .xor .u8 (x.toNat:Int) 90 = ((over x).toNat:Int):=xor_byte x 90
theorem OverBytes_ok {w:World} {n0:Nat} {v:Value} {bs:List UInt8} (h:BytesRow w n0 v bs) :
 Calls Tryz.prog 64 #[v] w fun e w' => (∃ u,e = .returned u) ∧ Ch (fun k => v.ownBlock = some k) w w':=by
 rcases h with ⟨rfl,rfl⟩ | ⟨g,c,all,rfl,h1,h2,h3,h4,h5,h6⟩
 · have hs:∀ w0:World,(Instr.sliceAt 32 (.slice none 0 0) none (some (.int .i64 0)) none).run Tryz.prog w0 = .ok (.slice none 0 0) w0:=fun w0 => by kernel_rfl
   go_enter Tryz.func64,Tryz.ntmps64
   go_wp2
   go_loopw [3] (fun i wr => i = .int .i64 0 ∧ wr = w) (fun i _ => 0)
   case atStart => exact ⟨rfl,rfl⟩
   obtain ⟨rfl,rfl⟩:=hrel
   go_wp2
   go_end0
   exact ⟨⟨_,rfl⟩,Ch.refl _ _⟩
 obtain ⟨m,hm⟩:∃ m,m = bs.length:=⟨_,rfl⟩
 rw [← hm] at h6
 have hmc:m ≤ c:=h6
 have hs:∀ w0:World,(Instr.sliceAt 32 (.slice (some ⟨g,0,none⟩) m c) none (some (.int .i64 (c:Int))) none).run Tryz.prog w0 = .ok (.slice (some ⟨g,0,none⟩) c c) w0:=fun w0 => by
  have ht:Tryz.prog.underlying 32 = some (.slice (Tryz.prog.elem 32)):=by kernel_rfl
  rw [run_sliceAt_slice w0 _ _ _ _ _ ht,run_slice_h w0 _ (some ⟨g,0,none⟩) m c ht .i64 (c:Int) (by omega) (by omega)]
  obtain ⟨z,hz⟩:∃ z,(sizeOf (Tryz.prog.elem 32)).run Tryz.prog w0 = .ok z w0:=⟨1,by kernel_rfl⟩
  have e:(Value.slice (if c = 0 then some ⟨g,0,none⟩ else (some ⟨g,0,none⟩:Option Addr).map (·.add (0 * z))) (c - 0) (c - 0)) = .slice (some ⟨g,0,none⟩) c c:=by
   rw [Nat.zero_mul,Nat.sub_zero]
   congr 1
   split <;> rfl
  simp only [hz,sliced,Int.toNat_natCast,e,Result.andThen_ok]
 have hcm:(c:Int) ≤ 9223372036854775807:=by unfold maxLen at h5; omega
 have HAll:=(hIq h2 h3)
 rw [← hm]
 clear h1 h2 h3 h4 h5 h6 hm hmc
 go_enter Tryz.func64,Tryz.ntmps64
 go_wp2
 go_loopw [3] (fun i wr => ∃ (k:Nat) (l:List UInt8),k ≤ c ∧ i = .int .i64 k ∧ wr.heap[g]? = some (.cells (brow l) 5 (0,0)) ∧ l.length = c ∧ Ch (fun j => j = g) w wr) (fun i _ => c - (intOf i).toNat)
 case atStart => exact ⟨0,all,Nat.zero_le _,rfl,HAll.out.1,HAll.out.2,Ch.refl _ _⟩
 obtain ⟨k,l,hk,rfl,hrow,hl,hch⟩:=hrel
 by_cases hlt:k < c
 · obtain ⟨x,hx⟩:∃ x,l[k]? = some x:=⟨_,List.getElem?_eq_getElem (by omega)⟩
   have c1:wr.cell? ⟨g,k,none⟩ = some (bv x):=row_cell hrow (by unfold brow; rw [List.getElem?_toArray,List.getElem?_map,hx]; rfl)
   have f1:=row_free hrow k
   have hb:=over_bits x
   have hkc:(k:Int) < (c:Int):=by omega
   have hset:=row_set_same hrow k (bv (over x))
   have hbr:(brow l).setIfInBounds k (bv (over x)) = brow (l.set k (over x)):=by
    apply Array.ext'
    simp [brow,List.map_set]
   rw [hbr] at hset
   have HS:=(hIq hset (aIq hl hch))
   generalize over x = y at hb HS
   clear hrow hx hset hbr hl hch hk
   go_wp2
   go_roundw
   case rel => exact ⟨k + 1,_,by omega,by first | rfl | simp,HS.out.1,by rw [List.length_set]; exact HS.out.2.1,HS.out.2.2.setCell (p:=⟨g,k,none⟩) (.inl rfl) _⟩
   simp [intOf]; omega
 obtain rfl:k = c:=by omega
 have HC:=Lib.hid hch
 clear hrow hl hch hk hlt
 go_wp2
 go_end0
 exact ⟨⟨_,rfl⟩,HC.out.mono (fun j _ hj => by rw [hj]; rfl)⟩
end Go.Proofs.YtmeglndnkdgkoaaGreat.Store

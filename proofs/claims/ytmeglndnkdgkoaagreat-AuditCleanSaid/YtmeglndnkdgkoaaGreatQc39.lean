/- Laws of the layers below. -/
import Derived.Test.YtmeglndnkdgkoaaGreatQc38
set_option maxHeartbeats 3200000
set_option maxRecDepth 100000
set_option linter.unusedVariables false
namespace Go.Proofs.YtmeglndnkdgkoaaGreat
open Go.RowKit
section
variable {P : Program} {Q : Exit → Act → World → Prop} {md : Region.Mode} {S : World → Prop}
def wpPlanF (P:Program) (l:List Oper) (Q:Exit → Act → World → Prop) (f:Nat) (S:World → Prop) (n:Nat):List (Nat × Bool) → Act → World → Prop
 | [],a,w => wpOp P l.toArray Q f (fun a' w' => S w' ∧ wpPlan P l Q S n [] a' w') a w
 | (i,false) :: r,a,w => ∃ o v,l[i]? = some o ∧ YieldsIf P l.toArray S o v a ∧ wpPlanF P l Q f S n r (a.put o.dst v) w
 | (i,true) :: r,a,w => wpOp P l.toArray Q i (fun a' w' => S w' ∧ wpPlanF P l Q f S n r a' w') a w ∧ wpOp P l.toArray Q f (fun a' w' => S w' ∧ wpPlan P l Q S n ((i,true) :: r) a' w') a w
def planFB (md:Region.Mode) (ops:Array Oper) (f n:Nat):List (Nat × Bool) → Array Bool → Bool
 | [],listed => decide (f < n) && decide (Region.ready md ops listed = [f]) && planB md ops n [] (listed.setIfInBounds f true)
 | (i,false) :: r,listed => decide (i < n) && (Region.ready md ops listed).contains i && Region.free md ops listed i && planFB md ops f n r (listed.setIfInBounds i true)
 | (i,true) :: r,listed => decide (i < n) && decide (f < n) && (decide (Region.ready md ops listed = [i,f]) || decide (Region.ready md ops listed = [f,i])) && planFB md ops f n r (listed.setIfInBounds i true) && planB md ops n ((i,true) :: r) (listed.setIfInBounds f true)
def regionFB (md:Region.Mode) (ops:Array Oper) (f n:Nat) (p:List (Nat × Bool)):Bool :=
 Region.noSelect ops && decide (p.length + 1 = n) && decide (n ≤ ops.size) && tailB md ops n && planFB md ops f n p (Array.replicate ops.size false)
end
section
variable {P : Program} {Q : Exit → Act → World → Prop} {md : Region.Mode} {S : World → Prop} {q : List (Nat × Bool)}
def wpPlanG (P:Program) (l:List Oper) (Q:Exit → Act → World → Prop) (f:Nat) (S:World → Prop) (n:Nat) (q:List (Nat × Bool)):List (Nat × Bool) → Act → World → Prop
 | [],a,w => wpOp P l.toArray Q f (fun a' w' => S w' ∧ wpPlan P l Q S n q a' w') a w
 | (i,false) :: r,a,w => ∃ o v,l[i]? = some o ∧ YieldsIf P l.toArray S o v a ∧ wpPlanG P l Q f S n q r (a.put o.dst v) w
 | (i,true) :: r,a,w => wpOp P l.toArray Q i (fun a' w' => S w' ∧ wpPlanG P l Q f S n q r a' w') a w ∧ wpOp P l.toArray Q f (fun a' w' => S w' ∧ wpPlan P l Q S n ((i,true) :: (r ++ q)) a' w') a w
def planGB (md:Region.Mode) (ops:Array Oper) (f n:Nat) (q:List (Nat × Bool)):List (Nat × Bool) → Array Bool → Bool
 | [],listed => decide (f < n) && decide (Region.ready md ops listed = [f]) && planB md ops n q (listed.setIfInBounds f true)
 | (i,false) :: r,listed => decide (i < n) && (Region.ready md ops listed).contains i && Region.free md ops listed i && planGB md ops f n q r (listed.setIfInBounds i true)
 | (i,true) :: r,listed => decide (i < n) && decide (f < n) && (decide (Region.ready md ops listed = [i,f]) || decide (Region.ready md ops listed = [f,i])) && planGB md ops f n q r (listed.setIfInBounds i true) && planB md ops n ((i,true) :: (r ++ q)) (listed.setIfInBounds f true)
def regionGB (md:Region.Mode) (ops:Array Oper) (f n:Nat) (q p:List (Nat × Bool)):Bool :=
 Region.noSelect ops && decide (q.length + 1 + p.length = n) && decide (n ≤ ops.size) && tailB md ops n && planGB md ops f n q p (Array.replicate ops.size false)
end
end Go.Proofs.YtmeglndnkdgkoaaGreat
namespace Go.Proofs.YtmeglndnkdgkoaaGreat.Store
open Go.RowKit Go.Shelf Go.Sort Go.Proofs.YtmeglndnkdgkoaaGreat.ShaW Go.Proofs.YtmeglndnkdgkoaaGreat.Path Go.Proofs.YtmeglndnkdgkoaaGreat.Law9
attribute [local go_sem] Oper.semAt_some
theorem at_act1 {P:Program} {C:Code} {Q:Exit → Act → World → Prop} {a:Act} {w:World} (h:∀ a0,a0 = a → C.wp P Q a0 w):C.wp P Q a w:=h a rfl
theorem ints_new0 (w:World) (l:List Int):IntsAt (w.alloc (.cells (intL l).toArray 3)) (some ⟨w.heap.size,0,none⟩) l:=fun i x hx => by
 refine ⟨_,_,rfl,?_⟩
 rw [Nat.zero_add]
 refine row_cell (heap_alloc_new w _) ?_
 simp [intL,hx]

end Go.Proofs.YtmeglndnkdgkoaaGreat.Store
namespace Go.Proofs.YtmeglndnkdgkoaaGreat.Store
open Go.RowKit Go.Sort Go.Proofs.YtmeglndnkdgkoaaGreat.ShaW Go.Proofs.YtmeglndnkdgkoaaGreat.Path Go.Proofs.YtmeglndnkdgkoaaGreat.Law9
abbrev BelG (n0:Nat) (G:Nat → Prop) (A B:World):Prop:=Ch (fun k => n0 ≤ k ∨ G k) A B
theorem BelG.of_below {n0:Nat} {G:Nat → Prop} {A B:World} (h:Below n0 A B):BelG n0 G A B:=(Ch.of_below h).mono (fun _ _ h => .inl h)
theorem belG_t {n0:Nat} {G:Nat → Prop} {A B C:World} (h:BelG n0 G A B) (k:BelG n0 G B C):BelG n0 G A C:=Ch.trans_same h k
theorem belG_b {n0:Nat} {G:Nat → Prop} {w:World} (hn:n0 ≤ w.heap.size) (W:World) (l:Nat) (o o':Obj) (hl:w.heap.size ≤ l) (h:W.heap[l]? = some o) (_:o.isCells = false) (_:o.isWalk = false):BelG n0 G W (W.putObj l o') :=
 (Ch.refl _ W).grown (grownBy_putObj' W l o') (fun k hk => .inl (.inl (by cases hk; omega)))
theorem overSeqG {G:Nat → Prop} (n:Nat) (hn:1 ≤ n) (b base:Nat) (hG:∀ k,G k → k < base) (v:Value) (out:List Pr) (w:World)
 (hrow:w.heap[b]? = some (.cells #[v] 63 (0,0))) (ht:Told base w v out) (hlen:out.length ≤ 65536) (hval:∀ x ∈ out,x.val.length ≤ 1024) :
 SeqY Fence.wide n Tryz.prog 175 #[.pointer (some ⟨b,0,none⟩)] (fun x:Pr => #[.agg (brow x.key),x.vv]) (Yv w.heap.size out) (BelG w.heap.size G) (fun ys => ys.map Pr.ent = out.map Pr.ent) (fun pre => pre.map Pr.ent <+: out.map Pr.ent) out.length w:=by
 intro l J Jx W hW hJ hJx hY h0
 have HY:=Lib.hid hY
 have HGB:=Lib.hid hG
 have HJA:=Lib.hid hJ
 obtain ⟨ao,cap,rfl⟩:=ht.row.form
 obtain ⟨m,hm⟩:∃ m,m = out.length:=⟨_,rfl⟩
 have hb:=row_lt hrow
 have c1:W.cell? ⟨b,0,none⟩ = some (.slice ao m cap):=by rw [hm]; exact below_cell' hW (row_cell hrow rfl) hb
 have HB:=Lib.hid hW
 have HT:=Lib.hid ht
 have HV:=Lib.hid hval
 have HM:=Lib.hid hm
 have hm65:m ≤ 65536:=by omega
 obtain ⟨Z,hZ⟩:∃ Z,Z = zPair:=⟨_,rfl⟩
 obtain ⟨hz0,hz1,hz2,hz3⟩:=pair_z
 rw [← hZ] at hz0 hz1
 have HZ:=(hIq hz0 hz1)
 obtain ⟨i8,p1,p2,p3,p4⟩:=info8
 have HI:=(hIq p1 (aIq p2 (aIq p3 p4)))
 clear hG hY hJ hJx hrow hm hW ht hval hZ hz0 hz1 hz2 hz3 p1 p2 p3 p4 hlen
 refine callsIn_of_wp Tryz.func175 rfl trivial ?_ rfl
 simp only [Tryz.ntmps175,List.size_toArray,List.length_cons,List.length_nil,Nat.reduceAdd,Nat.reduceSub,Array.replicate_succ,Array.replicate_zero,List.push_toArray,List.append_toArray,List.nil_append,List.cons_append]
 gi_wp2
 gi_loopw [7] (fun i wr => ∃ (k:Nat) (ys:List Pr),k ≤ m ∧ i = .int .i64 k ∧ ys.map Pr.ent = (out.take k).map Pr.ent ∧ J ys wr ∧ BelG w.heap.size G w wr) (fun i _ => m - (intOf i).toNat)
 case atStart => exact ⟨0,[],Nat.zero_le _,rfl,by simp,h0,BelG.of_below HB.out⟩
 obtain ⟨k,ys,hk,rfl,hys,hJs,hnx⟩:=hrel
 have hyl:ys.length = k:=by have:=congrArg List.length hys; rw [List.length_map,List.length_map,List.length_take] at this; have:=HM.out; omega
 have HJ:=Lib.hid hJs
 have HX:=Lib.hid hnx
 have HYS:=(hIq hys hyl)
 by_cases hlt:k < m
 · obtain ⟨x,hx⟩:∃ x,out[k]? = some x:=⟨_,List.getElem?_eq_getElem (by rw [← HM.out]; exact hlt)⟩
   have hxm:=List.mem_of_getElem? hx
   obtain ⟨hk32,hbx,hblk⟩:=HT.out.vals x hxm
   obtain ⟨g0,cp,cur,hv0,hbg,hg0,hs0,hx0,_⟩:=HT.out.row.open (fun y hy => (HT.out.vals y hy).1) (by have:=HM.out; omega)
   injection hv0 with hv1 _ hv3
   subst hv1
   have hgl:g0 < w.heap.size:=row_lt hg0
   have hrw:wr.heap[g0]? = some (.cells cur 159 (0,0)):=(hnx.block g0 hgl (fun h => h.elim (fun h => by omega) (fun h => by have:=HGB.out _ h; omega))).trans hg0
   have hbw:Bytes wr x.vv x.val:=hbx.keep hnx (fun q hq hw => hw.elim (fun hw => by have:=(hblk q hq).2.1; omega) (fun hw => by have:=HGB.out _ hw; have:=(hblk q hq).1; omega))
   have hsz:=Pr.size hk32
   have hm33:k * 33 + 33 ≤ cur.size:=by have:=Nat.mul_le_mul_right 33 (show k + 1 ≤ out.length by have:=HM.out; omega); omega
   have hxc:=hx0 k x hx
   obtain ⟨C,hC⟩:∃ C,C = x.cells:=⟨_,rfl⟩
   have hCs:C.size = 33:=by rw [hC]; exact hsz
   have hC1:∀ u ∈ C.toList,u.oneCell' = true:=by rw [hC]; exact Pr.one (w:=w) ⟨hk32,hbx,fun _ q hq => (hblk q hq).2.1⟩
   have hCk:C.extract 0 (0 + 32) = brow x.key:=by rw [hC]; exact Pr.at_key hk32
   have hCv:C[32]? = some x.vv:=by rw [hC]; exact Pr.at_val hk32
   rw [← hC] at hxc
   obtain ⟨KX,hKX⟩:∃ K,K = brow x.key:=⟨_,rfl⟩
   rw [← hKX] at hCk
   obtain ⟨p,hp⟩:∃ p,p = wr.heap.size:=⟨_,rfl⟩
   obtain ⟨wp,hwp⟩:∃ wp,wp = (wr.alloc (.cells Z 159)).setRow p C:=⟨_,rfl⟩
   have rp:wp.heap[p]? = some (.cells C 159 (0,0)):=by rw [hwp,hp]; exact row_setRow_same (heap_alloc_new _ _) _
   have ap:Adds wr wp:=by rw [hwp]; exact ((Ch.refl _ _).alloc _).setRow (.inr (by omega)) _
   obtain ⟨xo,xc,hxv,_⟩:=hbw.form
   obtain ⟨v',w8,hrun,hown8,a8⟩:=run_append_copy' (P:=Tryz.prog) wp.drew 32 32 5 rfl i8 Tryz.underlying32 HI.out.1 HI.out.2.1 HI.out.2.2.1 HI.out.2.2.2 x.vv x.val (hbw.keep ap.drew (fun _ _ h => h)) (by have:=HV.out x hxm; omega)
   have r8:=a8.row (row_drew rp) id
   have a18:Adds wr w8:=ap.drew.trans a8 (fun _ => fEq)
   have hwr:=HX.out.size
   have hJ8:=HJA.out ys wr w8 none HJ.out a18.grownBy (fun r e => by cases e)
   have hY8:Yv w.heap.size out ys ⟨x.key,v',x.val⟩ w8:=⟨x,by rw [HYS.out.2]; exact hx,rfl,hk32,HV.out x hxm,hown8.base (fun q hq => by have h1:=(hown8.lt q hq).1; have h2:=ap.size; simp at h1; omega)⟩
   obtain ⟨fn,tmps,assign,body,hy,hR⟩:=HY.out ys ⟨x.key,v',x.val⟩ w8 hJ8 hY8 (by rw [HYS.out.2, ← HM.out]; exact hlt)
   dsimp only at hy
   rw [← hKX] at hy
   have hR2:=hR.mono (R':=fun e W' => ∃ bb:Bool,e = .returned (.bool bb) ∧ (if bb = true then J (ys ++ [Pr.mk x.key v' x.val]) W' ∧ BelG w.heap.size G w8 W' else Jx (ys ++ [Pr.mk x.key v' x.val]) W')) (fun e W' h => by
    rcases h with ⟨rfl,p,q⟩ | ⟨rfl,p⟩
    · exact ⟨true,rfl,by rw [if_pos rfl]; exact ⟨p,q⟩⟩
    exact ⟨false,rfl,by rw [if_neg (by decide)]; exact p⟩)
   have eK:∀ w0:World,w0.heap[p]? = some (.cells C 159 (0,0)) → (loadVar 31 ⟨p,0,none⟩).run Tryz.prog w0 = .ok (.agg KX) w0:=fun w0 h => by
    have:=run_load_part (P:=Tryz.prog) w0 h Tryz.underlying31 rfl sizeP (off:=0) (by rw [hCs]; omega)
    rw [this,hCk]
   have e1:=eK wp.drew (row_drew rp)
   have e8:=eK w8 r8
   have c32:=row_cell (row_drew rp) hCv
   have c832:=row_cell r8 hCv
   have HW:=(hIq hwp hp)
   have HC:=(hIq hCs (aIq hC1 hxc))
   have HR2:=Lib.hid hR2
   have HRW:=(hIq hrw hm33)
   have HYY:=Lib.hid hy
   have HEND:=Lib.hid (show (ys ++ [Pr.mk x.key v' x.val]).map Pr.ent = (out.take (k + 1)).map Pr.ent by rw [List.map_append,HYS.out.1,take_step' hx,List.map_append]; rfl)
   have HB8:=Lib.hid (show BelG w.heap.size G w w8 from HX.out.trans_same (a18.mono (fun _ _ h => h.elim)))
   rw [hxv] at hrun c32 c832
   have hkm:(k:Int) < (m:Int):=by omega
   clear hx hxm hk32 hbx hblk hbg hg0 hs0 hx0 hgl hrw hbw hsz hm33 hxc hC hCs hC1 hCk hCv hKX hwp rp ap hown8 a8 r8 a18 hwr hJ8 hY8 hR hR2 eK hys hyl hJs hnx hxv hp hv3
   gi_wp2_with (first
    | fail
    | ((with_reducible show wpListIn _ _ _ _ _ (⟨_,.load 159 _,_,_,_,_⟩ :: _) _ _); refine wpListIn_load_part rfl 159 _ rfl g0 (k * 33) rfl HRW.out.1 Tryz.underlying159 rfl sizePr HRW.out.2 C HC.out.2.2 ?_)
    | ((with_reducible show wpListIn _ _ _ _ _ (⟨_,.alloc 159,_,_,_,_⟩ :: _) _ _); refine wpListIn_alloc_is rfl 159 rfl (.agg Z) HZ.out.1 ?_; dsimp only [Value.cells]; try simp only [World.size_alloc])
    | ((with_reducible show wpListIn _ _ _ _ _ (⟨_,.store 159 _ _,_,_,_,_⟩ :: _) _ _); refine wpListIn_store_part rfl 159 _ _ rfl wr.heap.size 0 C rfl rfl (heap_alloc_new _ _) (by rw [sizePr,HC.out.1]) (by rw [HC.out.1,HZ.out.2]; omega) HC.out.2.1 C (by rw [splice_all _ _ (by rw [Array.length_toList,Array.length_toList,HC.out.1,HZ.out.2])]) ?_))
   rw [← HW.out.2]
   rw [← HW.out.1]
   refine wpIn_region_any (by kernel_rfl) ?_
   change wpAnyIn _ _ _ _ _ _ _ _ _ (World.drew _)
   refine wpAnyIn_take (i:=0) (v:=.func (.yield l) #[] #[]) rfl rfl (by kernel_rfl) (by kernel_rfl) (by kernel_rfl) (fun _ _ _ h => h) ⟨Or.inl ⟨by rfl,fun w0 => by go_simp; try rfl⟩,fun _ => rfl⟩ ?_
   refine wpAnyIn_take (i:=1) (v:=.pointer (some ⟨p,0,none⟩)) rfl rfl (by kernel_rfl) (by kernel_rfl) (by kernel_rfl) (fun _ _ _ h => h) ⟨Or.inl ⟨by rfl,fun w0 => by go_simp; try rfl⟩,fun _ => rfl⟩ ?_
   refine wpAnyIn_take (i:=3) (v:=.pointer (some ⟨p,32,none⟩)) rfl rfl (by kernel_rfl) (by kernel_rfl) (by kernel_rfl) (fun _ _ _ h => h) ⟨Or.inl ⟨by rfl,fun w0 => by go_simp; try rfl⟩,fun _ => rfl⟩ ?_
   have sl:(loadVar 32 ⟨p,32,none⟩).run Tryz.prog wp.drew = .ok (.slice xo x.val.length xc) wp.drew:=by go_simp; try rfl
   refine wpAnyIn_ready (rs := [2,4]) (by kernel_rfl) (by simp) (AllReadyIn.cons rfl (fun K2 hK2 => ?_) (AllReadyIn.cons rfl (fun K4 hK4 => ?_) AllReadyIn.nil))
   · refine stepIn_run rfl (fun f hf => trivial) rfl (exec_load rfl rfl e1) (hK2 _ _ ?_)
     refine wpAnyIn_ready (rs := [4]) (by kernel_rfl) (by simp) (AllReadyIn.cons rfl (fun K4 hK4 => ?_) AllReadyIn.nil)
     refine stepIn_run rfl (fun f hf => trivial) rfl (exec_load rfl rfl sl) (hK4 _ _ ?_)
     refine wpAnyIn_ready (rs := [5]) (by kernel_rfl) (by simp) (AllReadyIn.cons rfl (fun K5 hK5 => ?_) AllReadyIn.nil)
     refine stepIn_run rfl (fun f hf => trivial) rfl (exec_append rfl hrun) (hK5 _ _ ?_)
     refine wpAnyIn_ready (rs := [6]) (by kernel_rfl) (by simp) (AllReadyIn.cons rfl (fun K6 hK6 => ?_) AllReadyIn.nil); simp only [Act.put]; go_simp; refine HR2.out.mono ?_; rintro e W3 ⟨bb,rfl,hbb⟩; refine hK6 _ _ ?_; refine wpAnyIn_take (i:=7) (v:=.bool (!bb)) rfl rfl (by kernel_rfl) (by kernel_rfl) (by kernel_rfl) (fun _ _ _ h => h) ⟨Or.inl ⟨by rfl,fun w0 => by go_simp; try rfl⟩,fun _ => rfl⟩ ?_; refine wpAnyIn_done (by kernel_rfl) ?_ _; simp only [Act.put]; clear hK6; cases bb with | true => (rw [if_pos rfl] at hbb; obtain ⟨hJ3,hK3⟩:=hbb; have H3:=(hIq hJ3 hK3); clear hJ3 hK3; gi_wp2; go_roundw; (case rel => exact ⟨k + 1,ys ++ [Pr.mk x.key v' x.val],by omega,by simp,HEND.out,H3.out.1,HB8.out.trans_same H3.out.2⟩); (case measure => (simp [intOf]; omega))) | false => (rw [if_neg (by decide)] at hbb; have H3:=Lib.hid hbb; clear hbb; gi_wp2; refine bodyPost_ret (results_none rfl _ _ _) rfl ?_; exact ⟨⟨_,rfl⟩,.inr ⟨_,by rw [HEND.out]; exact (List.take_prefix _ _).map _,H3.out⟩⟩)
   refine stepIn_run rfl (fun f hf => trivial) rfl (exec_load rfl rfl sl) (hK4 _ _ ?_)
   refine wpAnyIn_ready (rs := [2,5]) (by kernel_rfl) (by simp) (AllReadyIn.cons rfl (fun K2 hK2 => ?_) (AllReadyIn.cons rfl (fun K5 hK5 => ?_) AllReadyIn.nil))
   · refine stepIn_run rfl (fun f hf => trivial) rfl (exec_load rfl rfl e1) (hK2 _ _ ?_)
     refine wpAnyIn_ready (rs := [5]) (by kernel_rfl) (by simp) (AllReadyIn.cons rfl (fun K5 hK5 => ?_) AllReadyIn.nil)
     refine stepIn_run rfl (fun f hf => trivial) rfl (exec_append rfl hrun) (hK5 _ _ ?_)
     refine wpAnyIn_ready (rs := [6]) (by kernel_rfl) (by simp) (AllReadyIn.cons rfl (fun K6 hK6 => ?_) AllReadyIn.nil); simp only [Act.put]; go_simp; refine HR2.out.mono ?_; rintro e W3 ⟨bb,rfl,hbb⟩; refine hK6 _ _ ?_; refine wpAnyIn_take (i:=7) (v:=.bool (!bb)) rfl rfl (by kernel_rfl) (by kernel_rfl) (by kernel_rfl) (fun _ _ _ h => h) ⟨Or.inl ⟨by rfl,fun w0 => by go_simp; try rfl⟩,fun _ => rfl⟩ ?_; refine wpAnyIn_done (by kernel_rfl) ?_ _; simp only [Act.put]; clear hK6; cases bb with | true => (rw [if_pos rfl] at hbb; obtain ⟨hJ3,hK3⟩:=hbb; have H3:=(hIq hJ3 hK3); clear hJ3 hK3; gi_wp2; go_roundw; (case rel => exact ⟨k + 1,ys ++ [Pr.mk x.key v' x.val],by omega,by simp,HEND.out,H3.out.1,HB8.out.trans_same H3.out.2⟩); (case measure => (simp [intOf]; omega))) | false => (rw [if_neg (by decide)] at hbb; have H3:=Lib.hid hbb; clear hbb; gi_wp2; refine bodyPost_ret (results_none rfl _ _ _) rfl ?_; exact ⟨⟨_,rfl⟩,.inr ⟨_,by rw [HEND.out]; exact (List.take_prefix _ _).map _,H3.out⟩⟩)
   refine stepIn_run rfl (fun f hf => trivial) rfl (exec_append rfl hrun) (hK5 _ _ ?_)
   refine wpAnyIn_ready (rs := [2]) (by kernel_rfl) (by simp) (AllReadyIn.cons rfl (fun K2 hK2 => ?_) AllReadyIn.nil)
   refine stepIn_run rfl (fun f hf => trivial) rfl (exec_load rfl rfl e8) (hK2 _ _ ?_)
   refine wpAnyIn_ready (rs := [6]) (by kernel_rfl) (by simp) (AllReadyIn.cons rfl (fun K6 hK6 => ?_) AllReadyIn.nil); simp only [Act.put]; go_simp; refine HR2.out.mono ?_; rintro e W3 ⟨bb,rfl,hbb⟩; refine hK6 _ _ ?_; refine wpAnyIn_take (i:=7) (v:=.bool (!bb)) rfl rfl (by kernel_rfl) (by kernel_rfl) (by kernel_rfl) (fun _ _ _ h => h) ⟨Or.inl ⟨by rfl,fun w0 => by go_simp; try rfl⟩,fun _ => rfl⟩ ?_; refine wpAnyIn_done (by kernel_rfl) ?_ _; simp only [Act.put]; clear hK6; cases bb with | true => (rw [if_pos rfl] at hbb; obtain ⟨hJ3,hK3⟩:=hbb; have H3:=(hIq hJ3 hK3); clear hJ3 hK3; gi_wp2; go_roundw; (case rel => exact ⟨k + 1,ys ++ [Pr.mk x.key v' x.val],by omega,by simp,HEND.out,H3.out.1,HB8.out.trans_same H3.out.2⟩); (case measure => (simp [intOf]; omega))) | false => (rw [if_neg (by decide)] at hbb; have H3:=Lib.hid hbb; clear hbb; gi_wp2; refine bodyPost_ret (results_none rfl _ _ _) rfl ?_; exact ⟨⟨_,rfl⟩,.inr ⟨_,by rw [HEND.out]; exact (List.take_prefix _ _).map _,H3.out⟩⟩)
 obtain rfl:k = m:=by omega
 gi_wp2
 go_end0
 exact ⟨⟨_,rfl⟩,.inl ⟨ys,by rw [HYS.out.1,List.take_of_length_le (by have:=HM.out; omega)],HJ.out⟩⟩
end Go.Proofs.YtmeglndnkdgkoaaGreat.Store
namespace Go.Proofs.YtmeglndnkdgkoaaGreat.Store
open Go.RowKit Go.Proofs.YtmeglndnkdgkoaaGreat.ShaW Go.Proofs.YtmeglndnkdgkoaaGreat.Path
section
variable {σ : SlabSt Nd} {R : List (Int × Ents)} {l l' : List Int} {k k' : Wk} {x h : Int}
theorem nodes_leaves (t:Tr):2 * t.leaves ≤ t.nodes + 1:=by
 induction t with
 | nil => simp [Tr.leaves]
 | leaf a b => simp [Tr.leaves,Tr.nodes]
 | node l r ihl ihr => simp only [Tr.leaves,Tr.nodes]; omega
theorem nodes_live {root:Int} {t:Tr} (G:Good σ) (hr:Rep (sk σ) root 0 t):t.nodes ≤ live σ:=by
 rw [← reach_nodes G.fit hr (m:=257) rfl (by omega), ← handles_length]
 refine nodup_len (reach_nodup G.fit hr rfl (by omega)) fun k hk => ?_
 obtain ⟨n,hn⟩:=reach_there _ _ _ hk
 obtain ⟨x,hx,_⟩:=sk_get hn
 exact get_has hx
structure Says (σ:SlabSt Nd) (l:List Int):Prop where
 good:Good σ
 held:∀ k,k ≠ 0 → Store.held σ k = (l.count k:Nat)
theorem roots_count (R:List (Int × Ents)) (k:Int):roots R k = (R.map Prod.fst).count k:=by
 unfold roots
 rw [List.count,List.countP_map]
 rfl
theorem Roots.says (h:Roots σ R) (hl:∀ k,k ≠ 0 → l.count k = (R.map Prod.fst).count k):Says σ l:=⟨h.good,fun k hk => by rw [h.held k hk,roots_count,hl k hk]⟩
theorem Says.mem (S:Says σ l) (p:Int) (hp:1 ≤ Store.held σ p):p ∈ l:=by
 have h0:p ≠ 0:=fun e => by rw [e,held_none0] at hp; omega
 rw [S.held p h0] at hp
 exact List.count_pos_iff.1 (by omega)
theorem count_getC {h:Int} {y:Nd × Nat} (hy:σ.get? h = some y):σ.count h = y.2:=by unfold SlabSt.count; rw [hy]; rfl
theorem Says.cnt (S:Says σ l) (W:Wanting σ l k.todo.length k) (hx:has σ h = true):k.cnt h = σ.count h:=by
 obtain ⟨y,hy⟩:=has_get hx
 have h1:=W.count S.good (S.mem) hy
 rw [S.held h (get_ne hy)] at h1
 rw [count_getC hy]
 omega
theorem handles_has {n:Nat} (hn:n ∈ handles σ):has σ (n:Int) = true:=by
 obtain ⟨y,hy⟩:=(mem_handles (n:Int)).2 ⟨n,hn,rfl⟩
 exact get_has hy
theorem Says.finds (S:Says σ l) (W:Wanting σ l k.todo.length k):finds σ k.cnt = []:=by
 unfold Store.finds findsL
 refine List.filterMap_eq_nil_iff.2 fun n hn => ?_
 rw [if_pos (by rw [S.cnt W (handles_has hn)])]
theorem Says.lost (S:Says σ l) (W:Wanting σ l k.todo.length k):lostL k.cnt (handles σ) = []:=by
 unfold lostL
 rw [List.filter_eq_nil_iff.2 fun n hn => ?_]
 · rfl
 obtain ⟨y,hy⟩:=(mem_handles (n:Int)).2 ⟨n,hn,rfl⟩
 have:=(W.mem (n:Int)).1 (W.full S.good S.mem hy)
 simp
 omega
theorem sum_sub {f:Int → Nat}:∀ {a b:List Int},a.Nodup → (∀ y ∈ a,y ∈ b) → (a.map f).sum ≤ (b.map f).sum
 | [],_,_,_ => by simp
 | y :: a,b,hn,hs => by
  have hy:y ∈ b:=hs y (List.mem_cons_self ..)
  have ih:=sum_sub (f:=f) (b:=b.erase y) (List.nodup_cons.1 hn).2 (fun z hz => (List.mem_erase_of_ne (fun e => (List.nodup_cons.1 hn).1 (by rw [← e]; exact hz))).2 (hs z (List.mem_cons_of_mem _ hz)))
  have hp:=(List.perm_cons_erase hy).map f
  rw [hp.sum_nat]
  simp only [List.map_cons,List.sum_cons]
  omega
theorem Wanting.less (W:Wanting σ l k.todo.length k) (W':Wanting σ l' k'.todo.length k') (hs:l'.Sublist l) (h0:h ≠ 0):k'.cnt h + l.count h ≤ k.cnt h + l'.count h:=by
 rw [W.cnt' h0,W'.cnt' h0]
 have:=sum_sub (f:=fun x => refs (nd σ x) h) W'.nodup (b:=k.todo) fun y hy => W.mem_fro.2 ((W'.mem_fro.1 hy).mono fun z hz => hs.subset hz)
 omega
theorem Says.less (S:Says σ l) (W:Wanting σ l k.todo.length k) (W':Wanting σ l' k'.todo.length k') (hs:l'.Sublist l) {f:Int × Int × Int} (hf:f ∈ Store.finds σ k'.cnt):f.2.1 < f.2.2:=by
 unfold Store.finds findsL at hf
 obtain ⟨n,hn,e⟩:=List.mem_filterMap.1 hf
 have hh:=handles_has hn
 obtain ⟨y,hy⟩:=has_get hh
 have h1:=S.cnt W hh
 have h2:=W.less W' hs (get_ne hy)
 have h3:=hs.count_le (n:Int)
 split at e
 · cases e
 obtain rfl:=Option.some.inj e
 simp only
 omega
theorem Says.some (S:Says σ l) (W:Wanting σ l k.todo.length k) (W':Wanting σ l' k'.todo.length k') (hs:l'.Sublist l) (hx:x ∈ l) (hh:has σ x = true) (hc:l'.count x < l.count x):Store.finds σ k'.cnt ≠ []:=by
 intro e
 obtain ⟨y,hy⟩:=has_get hh
 obtain ⟨n,hn,rfl⟩:=(mem_handles x).1 ⟨y,hy⟩
 have h1:=S.cnt W hh
 have h2:=W.less W' hs (get_ne hy)
 unfold Store.finds findsL at e
 have:=List.filterMap_eq_nil_iff.1 e n hn
 rw [if_neg (by omega)] at this
 cases this
theorem count_erase {i:Nat} {x:Int} (hi:l[i]? = Option.some x):(l.take i ++ l.drop (i + 1)).Sublist l ∧ (l.take i ++ l.drop (i + 1)).count x < l.count x:=by
 obtain ⟨h1,h2⟩:=List.getElem?_eq_some_iff.1 hi
 have e:l = l.take i ++ x :: l.drop (i + 1):=by
  conv => lhs; rw [← List.take_append_drop i l,List.drop_eq_getElem_cons h1,h2]
 refine ⟨?_,?_⟩
 · conv => rhs; rw [e]
   exact List.Sublist.append_left (List.sublist_cons_self ..) _
 conv => rhs; rw [e]
 rw [List.count_append,List.count_append,List.count_cons_self]
 omega
end
end Go.Proofs.YtmeglndnkdgkoaaGreat.Store

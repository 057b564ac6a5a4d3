/- Laws of the layers below. -/
import Derived.Test.YtngbdbpofifimaaGreatQl18
set_option maxHeartbeats 3200000
set_option maxRecDepth 100000
set_option linter.unusedVariables false
namespace Go.Proofs.YtngbdbpofifimaaGreat.Store
open Go.RowKit Go.Proofs.YtngbdbpofifimaaGreat.ShaW Go.Proofs.YtngbdbpofifimaaGreat.Path
section
variable {w0 w : World} {s : Nat} {σ σ' σ0 σ1 : AD Nd} {F G : Nat→Prop} {root r now : Int} {t : Tr} {L L' : AS} {key bs : List UInt8} {n : Nat} {R R' : List (Int×AS)}
theorem Ra (σ:AD Nd):Store.held σ 0=0:=rfl
structure Step (σ σ':AD Nd) (root r:Int):Prop where
 good:Good σ'
 agree:∀k x,sk σ k=some x→sk σ' k=none∨sk σ' k=some x
 held:∀k,k≠0→Store.held σ' k=Store.held σ k-(if k=root then 1 else 0)+(if k=r then 1 else 0)
theorem Step.refl (h:Good σ) (root:Int):Step σ σ root root:=⟨h,fun _ _ hx=>.inr hx,fun k _=>by split<;>omega⟩
theorem Step.Af (h:Step σ σ' root r) (hz:sk σ 0=none) {k:Int} {d:Nat} {t:Tr} (hr:Rep (sk σ) k d t) (h0:k=0∨∃y,sk σ' k=some y):Rep (sk σ') k d t:=by
 have back:∀k n,sk σ k=some n→(k=0∨∃m,sk σ' k=some m)→sk σ' k=some n:=fun k n hn hk=>by
  rcases hk with rfl|⟨m,hm⟩
  · rw[hz] at hn;cases hn
  rcases h.agree k n hn with e|e
  · rw[e] at hm;cases hm
  exact e
 have hc:=Sound.closed h.good.sound
 induction hr with
 | nil=>exact .nil
 | leaf hn hk=>exact .leaf (back _ _ hn h0) hk
 | node hn hk hd _ _ ihl ihr =>
  have:=back _ _ hn h0;exact .node this hk hd (ihl (hc _ _ this).1) (ihr (hc _ _ this).2)
theorem Kz {k:Int} (h:1≤Store.held σ k):∃x,sk σ k=some x:=by
 obtain⟨x,hx,_⟩:=BF h;exact⟨_,BZ hx⟩
theorem Dz {k:Int} (h:sk σ k=none) (hs:Sound σ []):Store.held σ k=0:=by
 have hn:=Bn hs k;by_cases e:1≤Store.held σ k
 · obtain⟨x,hx⟩:=Kz e
   rw[h] at hx;cases hx
 omega
theorem P9 (hs:Sound σ []) {h:Int} (hh:1≤Store.held σ h) (k:Int):Store.held (An σ h).2.2 k=Store.held σ k-(if k=h then 1 else 0):=by
 obtain⟨_,_,_,g3,g4,_,_,_⟩:=DS hs hh;have hd:=Iu hs hh k;have hn:=Bn hs k;by_cases e:k=h
 · subst e
   rw[if_pos rfl] at hd ⊢;by_cases h2:2≤Store.held σ k
   · exact(g4 h2).2
   rcases hd with e|e<;>omega
 rw[if_neg e] at hd ⊢;by_cases h1:1≤Store.held σ k
 · rw[(g3 k e h1).2];omega
 rcases hd with e|e<;>omega
theorem I4 (G:Good σ) {h:Int} (hh:1≤Store.held σ h):Step σ (An σ h).2.2 h 0:=by
 obtain⟨_,_,g2,_⟩:=DS G.sound hh;refine⟨G.drop h,fun k x hx=>?_,fun k hk=>by rw[P9 G.sound hh,if_neg hk];omega⟩;rcases g2 k with e|e
 · exact .inl e
 exact .inr (e.trans hx)
theorem PutMid.Z8 (h:PutMid σ0 σ key now 0 t n) (G:Good σ0) (k:Int):Store.held σ k=Store.held σ0 k+(if k=now then 1 else 0):=by
 have hn:=Bn h.good.sound k;by_cases e:k=now
 · subst e
   rw[if_pos rfl,h.one,Dz h.fresh G.sound];rfl
 rw[if_neg e];cases hx:sk σ0 k with
 | some x=>rw[(h.old k x hx).2];omega
 | none =>
  rw[Dz hx G.sound];by_cases h1:1≤Store.held σ k
  · rcases h.only k h1 with h2|h2
    · exact absurd h2 e
    rw[Dz hx G.sound] at h2;omega
  omega
theorem PutMid.step (h:PutMid σ0 σ key now 0 t n) (G:Good σ0) (hh:root=0∨1≤Store.held σ0 root):Step σ0 (if root≠0 then (An σ root).2.2 else σ) root now:=by
 have hh':=h.Z8 G;by_cases h0:root=0
 · rw[if_neg (by simpa using h0)]
   exact⟨h.good,fun k x hx=>.inr (h.old k x hx).1,fun k hk=>by rw[hh',h0,if_neg hk];omega⟩
 rw[if_pos h0];have hr:=hh.resolve_left h0;have hr1:1≤Store.held σ root:=by rw[hh'];split<;>omega
 have hd:=I4 h.good hr1;refine⟨hd.good,fun k x hx=>hd.agree k x (h.old k x hx).1,fun k hk=>?_⟩;rw[hd.held k hk,hh',if_neg hk];omega
def roots (R:List (Int×AS)) (k:Int):Nat:=R.countP (fun p=>p.1 == k)
theorem Dw (p:Int×AS) (R:List (Int×AS)) (k:Int):roots (p::R) k=roots R k+(if k=p.1 then 1 else 0):=by
 unfold roots;rw[List.countP_cons];by_cases e:k=p.1
 · simp[e]
 have:¬p.1=k:=fun h=>e h.symm
 simp[e,this]
theorem NK {p:Int×AS} (h:p∈R):1≤roots R p.1:=List.countP_pos_iff.2 ⟨p,h,by simp⟩
structure BE (σ:AD Nd) (R:List (Int×AS)):Prop where
 good:Good σ
 held:∀k,k≠0→Store.held σ k=(roots R k:Nat)
 rep:∀p∈R,Rep (sk σ) p.1 0 (tree 256 p.2)
 nodup:∀p∈R,(keysOf p.2).Nodup
 len:∀p∈R,∀q∈p.2,q.1.length=32
theorem BE.new (n:Nat) (h1:1≤n) (h2:n≤65536):BE ⟨n,[],[]⟩ []:=by
 refine⟨Good.new n h1 h2,fun k hk=>?_,fun p hp=>(by cases hp),fun p hp=>(by cases hp),fun p hp=>(by cases hp)⟩;rw[Dz (by unfold sk AD.get?;split<;>simp[Option.filter]) (Good.new n h1 h2).sound];rfl
theorem BE.perm (h:BE σ R) (hp:R.Perm R'):BE σ R' :=
 ⟨h.good,fun k hk=>by rw[h.held k hk];unfold roots;rw[hp.countP_eq],fun p hm=>h.rep p (hp.mem_iff.2 hm),fun p hm=>h.nodup p (hp.mem_iff.2 hm),fun p hm=>h.len p (hp.mem_iff.2 hm)⟩
theorem BE.there (h:BE σ R) {p:Int×AS} (hp:p∈R):p.1=0∨1≤Store.held σ p.1:=by
 by_cases e:p.1=0
 · exact .inl e
 right;rw[h.held _ e];have:=NK hp;omega
theorem BE.db (h:BE σ R) {p:Int×AS} (hp:p∈R):Db σ p.1 p.2:=⟨h.good,h.rep p hp,h.nodup p hp,h.len p hp,h.there hp⟩
theorem BE.step (h:BE σ ((root,L)::R)) (hs:Step σ σ' root r) (hr:Rep (sk σ') r 0 (tree 256 L')) (hn:(keysOf L').Nodup) (hl:∀q∈L',q.1.length=32):BE σ' ((r,L')::R):=by
 have hz:=h.good.fit.zero
 have hh:∀k,k≠0→Store.held σ' k=(roots ((r,L')::R) k:Nat):=fun k hk=>by
  rw[hs.held k hk,h.held k hk,Dw,Dw];simp only
  (repeat' split)<;>omega
 refine⟨hs.good,hh,fun p hp=>?_,fun p hp=>?_,fun p hp=>?_⟩
 · rcases List.mem_cons.1 hp with rfl|hp'
   · exact hr
   refine hs.Af hz (h.rep p (List.mem_cons_of_mem _ hp')) ?_;by_cases e:p.1=0
   · exact .inl e
   right;refine Kz ?_;rw[hh _ e];have:=NK hp;omega
 · rcases List.mem_cons.1 hp with rfl|hp
   · exact hn
   exact h.nodup p (List.mem_cons_of_mem _ hp)
 rcases List.mem_cons.1 hp with rfl|hp
 · exact hl
 exact h.len p (List.mem_cons_of_mem _ hp)
theorem BE.less (h:BE σ ((0,L)::R)):BE σ R :=
 ⟨h.good,fun k hk=>by rw[h.held k hk,Dw,if_neg hk];rfl,fun p hp=>h.rep p (List.mem_cons_of_mem _ hp),fun p hp=>h.nodup p (List.mem_cons_of_mem _ hp),fun p hp=>h.len p (List.mem_cons_of_mem _ hp)⟩
theorem BE.zero (h:BE σ R):BE σ ((0,[])::R):=by
 refine⟨h.good,fun k hk=>by rw[h.held k hk,Dw,if_neg hk];rfl,fun p hp=>?_,fun p hp=>?_,fun p hp=>?_⟩
 · rcases List.mem_cons.1 hp with rfl|hp
   · exact .nil
   exact h.rep p hp
 · rcases List.mem_cons.1 hp with rfl|hp
   · exact List.nodup_nil
   exact h.nodup p hp
 rcases List.mem_cons.1 hp with rfl|hp
 · exact fun q hq=>by cases hq
 exact h.len p hp
theorem BE.live (h:BE σ R) {p:Int×AS} (hp:p∈R) (ho:∀q∈R,q.1=0∨q.1=p.1):Store.live σ=(tree 256 p.2).nodes :=
 live_nodes h.good (h.rep p hp) fun k hk=>by
  have h0:k≠0:=fun e=>by rw[e,Ra] at hk;omega
  rw[h.held k h0] at hk;obtain⟨q,hq,e⟩:=List.countP_pos_iff.1 (show 0<R.countP (fun p=>p.1 == k) by unfold roots at hk;omega);have e':q.1=k:=by simpa using e
  rcases ho q hq with h1|h1
  · exact absurd (e'.symm.trans h1) h0
  rw[←e',h1]
theorem BE.hold (h:BE σ ((root,L)::R)) (h0:root≠0) (ht:Store.total σ<1073741824):(BI σ root).1=0∧BE (BI σ root).2 ((root,L)::(root,L)::R)∧Store.live (BI σ root).2=Store.live σ∧Store.total (BI σ root).2=Store.total σ+1∧(BI σ root).2.room=σ.room:=by
 obtain⟨h1,h2,h3,h4,h5,h6,h7⟩:=X7 (h.db (List.mem_cons_self ..)) h0 ht;have e:sk (BI σ root).2=sk σ:=funext h3;refine⟨h1,⟨h2.good,fun k hk=>?_,fun p hp=>?_,fun p hp=>?_,fun p hp=>?_⟩,h5,h6,h7⟩
 · rw[h4,Dw]
   by_cases e:k=root
   · subst e;rw[if_pos rfl,if_pos rfl,h.held _ hk];omega
   rw[if_neg e,if_neg e,h.held k hk];omega
 · rw[e]
   rcases List.mem_cons.1 hp with rfl|hp
   · exact h.rep _ (List.mem_cons_self ..)
   exact h.rep p hp
 · rcases List.mem_cons.1 hp with rfl|hp
   · exact h.nodup _ (List.mem_cons_self ..)
   exact h.nodup p hp
 rcases List.mem_cons.1 hp with rfl|hp
 · exact h.len _ (List.mem_cons_self ..)
 exact h.len p hp
theorem BE.drop (h:BE σ ((root,L)::R)) (h0:root≠0):(An σ root).2.1=0∧BE (An σ root).2.2 R∧Store.live (An σ root).2.2≤Store.live σ∧Store.total (An σ root).2.2≤Store.total σ∧(An σ root).2.2.room=σ.room:=by
 have hh:=(h.there (List.mem_cons_self ..)).resolve_left h0;obtain⟨g0,_,_,_,_,g5,g6,g7⟩:=DS h.good.sound hh;exact⟨g0,(h.step (L' := []) (I4 h.good hh) .nil List.nodup_nil (fun q hq=>by cases hq)).less,g5,g6,g7⟩
theorem WQ (hn:(keysOf L).Nodup) (hl:∀q∈L,q.1.length=32) (hk:key.length=32):(keysOf (upd L key bs)).Nodup∧∀p∈upd L key bs,p.1.length=32:=by
 refine⟨List.nodup_cons.2 ⟨fun hm=>?_,hn.sublist (keys_filter L _)⟩,fun p hp=>?_⟩
 · obtain⟨p,hp,e⟩:=List.mem_map.1 hm
   have:=(List.mem_filter.1 hp).2;simp[e] at this
 rcases List.mem_cons.1 hp with e|hp
 · rw[e];exact hk
 exact hl p (List.mem_filter.1 hp).1
structure WroteR (σ σ':AD Nd) (root r:Int) (n m:Nat):Prop where
 step:Step σ σ' root r
 live:Store.live σ'≤Store.live σ+n
 total:Store.total σ'≤Store.total σ+m
 room:σ'.room=σ.room
theorem Si (h:Ow w0 w s σ G) (D:BE σ ((root,L)::R)) (hk:key.length=32) {vv:Value} (hb:Bytes w vv bs) (hv:bs ≠ []→∀k,vv.ownBlock=some k→k<w.heap.size) (hl:bs.length≤1024) (hroom:live σ+258≤σ.room) (htot:total σ+600<1073741824) :
 Calls Tryz.prog 60 #[.pointer (some ⟨s,0,none⟩),.int .i64 root,.agg (AK key),vv] w fun e w'=>∃r σ',e=.returned (.tuple #[.int .i64 r,.int .i64 0])∧Ow w0 w' s σ' G∧But G w w' ∧
  WroteR σ σ' root r 258 600∧BE σ' ((r,upd L key bs)::R)∧r≠0∧((key,bs)∈L→r=root∧σ'=σ):=by
 have D0:Db σ root L:=D.db (List.mem_cons_self ..);have hre:=CI D0.hand;have hz:=D0.good.fit.zero;obtain⟨l,e1,ho⟩:=On.ex (k:=key) D0.rep;have hf:Cw σ 1=true:=by rw[GN,D0.good.used];exact decide_eq_true hroom
 have hin:=VE (v:=bs) 256 (Nat.le_refl _) (AS.Ok.any D0.nodup D0.len key) hk;rw[Nat.sub_self] at hin;obtain⟨hd1,hd2⟩:=WQ (bs:=bs) D0.nodup D0.len hk;by_cases hs:Im σ key bs e1=true
 · obtain⟨x,hx,h1,h2,h3⟩:=Tm hs
   have hr0:root≠0:=fun e=>by
    subst e;obtain⟨_,e⟩:=ho.zero hz;rw[e,hz] at hx;cases hx
   have hins:=ho.VS hz D0.rep hx h1 h2;rw[h3] at hins;obtain⟨F,hAt⟩:=h.at;have hst:=Step.refl D0.good root;refine(VY hAt D0.good root key hk hb hl D0.hand hre hf ho hs).mono fun e w' ⟨he,ha⟩=>⟨root,σ,he,h.adds ha,Adds.but ha,⟨hst,Nat.le_add_right _ _,Nat.le_add_right _ _,rfl⟩,?_,hr0,fun _=>⟨rfl,rfl⟩⟩
   exact D.step hst (by rw[←hin,hins];exact D0.rep) hd1 hd2
 have hs':Im σ key bs e1=false:=by simpa using hs
 refine(Zn h D0.good root key hk hb hv hl D0.hand hre hf ho hs').mono fun e w' ⟨v,he,ho',hb'⟩=>⟨_,_,he,ho',hb',?_⟩
 have hc:=Ld D0.good hk ho;have hM:=PutMid.made D0.good hk bs v hl D0.rep ho (by omega) htot;have hP:=Ue D0.good hk bs v hl D0.rep D0.held ho (by omega) htot;have hst:Step σ (Ml σ root key bs v l e1).2 root (Ml σ root key bs v l e1).1:=hM.step D0.good D0.held;refine⟨⟨hst,by have:=hP.live;omega,by have:=hP.total;omega,hP.room⟩,D.step hst (by rw[←hin];exact hP.rep) hd1 hd2,hP.ne,fun hm=>?_⟩;exfalso;obtain⟨x,hx,h1,h2,h3⟩:=On.KN hz 256 (Nat.le_refl _) (AS.Ok.any D0.nodup D0.len key) hm D0.rep ho;exact hs (V7 hx h1 h2 h3)
end
abbrev Wps:=List (List UInt8×Option (List UInt8))
def Fq (W:Wps):List (List UInt8):=W.map (·.1)
def FZ (W:Wps):AS:=W.filterMap fun p=>p.2.map fun v=>(p.1,v)
def CT (L:AS) (W:Wps):AS:=FZ W++L.filter fun p => !decide (p.1∈Fq W)
def Kl (b d:Nat) (W:Wps):Wps:=W.filter fun p=>AU p.1 d == b
theorem PG {W:Wps} {q:List UInt8×List UInt8}:q∈FZ W↔(q.1,some q.2)∈W:=by
 unfold FZ;rw[List.mem_filterMap];constructor
 · rintro⟨⟨k,o⟩,hp,e⟩
   cases o with
   | none=>cases e
   | some v=>cases e;exact hp
 exact fun h=>⟨_,h,rfl⟩
theorem IJ:∀W:Wps,(keysOf (FZ W)).Sublist (Fq W)
 | []=>List.Sublist.refl _
 | (k,none)::W=>(IJ W).cons _
 | (k,some v)::W=>(IJ W).cons_cons _
theorem NS (b d:Nat):∀W:Wps,sideE b d (FZ W)=FZ (Kl b d W)
 | []=>rfl
 | (k,o)::W=>by
  have ih:=NS b d W;unfold sideE Kl FZ at ih ⊢;by_cases e:AU k d=b
  · cases o with
    | none=>simp[e];exact ih
    | some v=>simp[e];exact ih
  cases o with
  | none=>simp[e];exact ih
  | some v=>simp[e];exact ih
theorem NY (b d:Nat) (L:AS) (W:Wps):sideE b d (CT L W)=CT (sideE b d L) (Kl b d W):=by
 unfold CT;rw[←NS];unfold sideE;rw[List.filter_append,List.filter_filter,List.filter_filter]
 congr 1
 refine List.filter_congr fun p hp=>?_
 by_cases e:AU p.1 d=b
 · have:p.1∈Fq W↔p.1∈Fq (Kl b d W):=by
    unfold Fq Kl;simp only[List.mem_map,List.mem_filter,beq_iff_eq];exact⟨fun ⟨q,hq,e2⟩=>⟨q,⟨hq,by rw[e2];exact e⟩,e2⟩,fun ⟨q,hq,e2⟩=>⟨q,hq.1,e2⟩⟩
   have e':(AU p.1 d == b)=true:=by simpa using e
   simp only[e',Bool.and_true,Bool.true_and,this]
 have e':(AU p.1 d == b)=false:=by simpa using e
 simp only[e',Bool.and_false,Bool.false_and]
theorem WW (L:AS):CT L []=L:=by
 unfold CT FZ Fq;simp
structure WOk (W:Wps) (k:List UInt8) (d:Nat):Prop where
 nodup:(Fq W).Nodup
 len:∀p∈W,p.1.length=32
 pre:∀p∈W,Pre p.1 k d
 val:∀p∈W,∀v,p.2=some v→v.length≤1024
section
variable {L : AS} {W : Wps} {k : List UInt8} {d : Nat}
theorem AS.Ok.Hu (h:L.Ok k d) {k':List UInt8} {b:Nat} (hp:Pre k' k d) (hb:AU k' d=b):AS.Ok (sideE b d L) k' (d+1) :=
 ⟨(h.filter _).nodup,(h.filter _).len,fun p hm=>((h.pre p (List.mem_filter.1 hm).1).trans hp.symm).next (by
  have:=(List.mem_filter.1 hm).2;simp at this;omega)⟩
theorem LU (hL:L.Ok k d) (hW:WOk W k d):(CT L W).Ok k d:=by
 have hm:∀p∈CT L W,(p.1,some p.2)∈W∨p∈L:=fun p hp=>by
  rcases List.mem_append.1 hp with h|h
  · exact .inl (PG.1 h)
  exact .inr (List.mem_filter.1 h).1
 refine⟨?_,fun p hp=>(hm p hp).elim (fun h=>hW.len _ h) (fun h=>hL.len _ h),fun p hp=>(hm p hp).elim (fun h=>hW.pre _ h) (fun h=>hL.pre _ h)⟩;unfold keysOf CT;rw[List.map_append];refine List.nodup_append.2 ⟨hW.nodup.sublist (IJ W),hL.nodup.sublist (keys_filter L _),fun a ha b hb e=>?_⟩;obtain⟨p,hp,e1⟩:=List.mem_map.1 hb;have h2:=(List.mem_filter.1 hp).2;have h3:=(IJ W).subset ha;simp[e1, ←e] at h2;exact h2 h3
theorem VW (hL:∀p∈L,p.2.length≤1024) (hW:WOk W k d):∀p∈CT L W,p.2.length≤1024:=fun p hp=>by
 rcases List.mem_append.1 hp with h|h
 · exact hW.val _ (PG.1 h) _ rfl
 exact hL p (List.mem_filter.1 h).1
theorem GU (k:List UInt8) (hk:k.length=32) {d:Nat} (hd:d<256) (b:Nat) (hb:b=0∨b=1):∃k':List UInt8,k'.length=32∧Pre k' k d∧AU k' d=b:=by
 by_cases e:AU k d=b
 · exact⟨k,hk,fun _ _=>rfl,e⟩
 obtain⟨x,hx⟩:∃x,k[d / 8]?=some x:=⟨_,List.getElem?_eq_getElem (by omega)⟩
 have hx2:k.getD (d / 8) 0=x:=by rw[List.getD_eq_getElem?_getD,hx];rfl
 obtain⟨y,hy⟩:∃y:UInt8,y=x ^^^ (UInt8.ofNat (2 ^ (7-d % 8))):=⟨_,rfl⟩
 have flip:∀(z:UInt8) (r:Fin 8),CV (z ^^^ UInt8.ofNat (2 ^ (7-r.val))) r.val≠CV z r.val∧∀i:Fin 8,i≠r→CV (z ^^^ UInt8.ofNat (2 ^ (7-r.val))) i.val=CV z i.val:=by
  have:∀(z:Fin 256) (r:Fin 8),CV (UInt8.ofNat z.val ^^^ UInt8.ofNat (2 ^ (7-r.val))) r.val≠CV (UInt8.ofNat z.val) r.val∧∀i:Fin 8,i≠r→CV (UInt8.ofNat z.val ^^^ UInt8.ofNat (2 ^ (7-r.val))) i.val=CV (UInt8.ofNat z.val) i.val:=by decide +kernel
  intro z r;have:=this ⟨z.toNat,z.toNat_lt⟩ r;simpa using this
 obtain⟨f1,f2⟩:=flip x ⟨d % 8,Nat.mod_lt _ (by decide)⟩;rw[show UInt8.ofNat (2 ^ (7-(⟨d % 8,Nat.mod_lt _ (by decide)⟩:Fin 8).val))=UInt8.ofNat (2 ^ (7-d % 8)) from rfl, ←hy] at f1 f2;have hl:d / 8<k.length:=by omega
 have hg:∀i,(k.set (d / 8) y).getD i 0=if d / 8=i then y else k.getD i 0:=fun i=>by
  rw[List.getD_eq_getElem?_getD,List.getD_eq_getElem?_getD,List.getElem?_set];by_cases e:d / 8=i
  · rw[if_pos e,if_pos e,if_pos hl];rfl
  rw[if_neg e,if_neg e]
 refine⟨k.set (d / 8) y,by rw[List.length_set];exact hk,fun i hi=>?_,?_⟩
 · unfold AU
   rw[hg];by_cases e2:d / 8=i / 8
   · rw[if_pos e2, ←e2,hx2]
     exact f2 ⟨i % 8,Nat.mod_lt _ (by decide)⟩ (fun h=>by have:=congrArg Fin.val h;simp only at this;omega)
   rw[if_neg e2]
 have h1:AU (k.set (d / 8) y) d=CV y (d % 8):=by unfold AU;rw[hg,if_pos rfl]
 have h2:AU k d=CV x (d % 8):=by unfold AU;rw[hx2]
 rw[h2] at e;rw[h1];have f1':CV y (d % 8)≠CV x (d % 8):=f1;rcases Gl y (d % 8) with h3|h3<;>rcases Gl x (d % 8) with h4|h4<;>rcases hb with h5|h5<;>omega
end
section
variable {σ σ1 σ2 σ' : AD Nd} {key k1 k2 : List UInt8} {r l a b old : Int} {d n m n1 m1 n2 m2 : Nat} {t tl tr : Tr}
structure Bt (σ σ':AD Nd) (key:List UInt8) (r:Int) (d:Nat) (t:Tr) (n m:Nat):Prop where
 good:Good σ'
 old:∀k x,sk σ k=some x→sk σ' k=some x
 held:∀k,k≠0→Store.held σ' k=Store.held σ k+(if k=r then 1 else 0)
 live:Store.live σ'≤Store.live σ+n
 total:Store.total σ'≤Store.total σ+m
 room:σ'.room=σ.room
 there:∀y,sk σ' r=some y→Pre y.key key d
 rep:Rep (sk σ') r d t
theorem Bt.Ik (h:Bt σ σ' key r d t n m) {n' m':Nat} (hn:n≤n') (hm:m≤m'):Bt σ σ' key r d t n' m':=⟨h.good,h.old,h.held,Nat.le_trans h.live (by omega),Nat.le_trans h.total (by omega),h.room,h.there,h.rep⟩
theorem Bt.nil (G:Good σ) (key:List UInt8) (d:Nat):Bt σ σ key 0 d .nil 0 0 :=
 ⟨G,fun _ _ h=>h,fun k hk=>by rw[if_neg hk];omega,Nat.le_refl _,Nat.le_refl _,rfl,fun y hy=>(by rw[G.fit.zero] at hy;cases hy),.nil⟩
theorem Qi (G:Good σ) (o:Int):Good (Aq σ o):=by
 unfold Aq;split
 · exact G.hold o
 exact G
theorem Bt.kept (G:Good σ) (hr:Rep (sk σ) r d t) (hp:∀y,sk σ r=some y→Pre y.key key d) (htot:Store.total σ<1073741824):Bt σ (Aq σ r) key r d t 0 1:=by
 obtain⟨s1,s2,s3,s4,s5⟩:=Gu G (other:=r) hr.live htot;have e0:sk (Aq σ r)=sk σ:=funext s1;refine⟨Qi G r,fun k x hx=>by rw[s1];exact hx,fun k hk=>?_,by omega,s4,s5,by rw[e0];exact hp,by rw[e0];exact hr⟩;rw[s2];by_cases e:k=r
 · rw[if_pos ⟨hk,e⟩,if_pos e]
 rw[if_neg (fun h=>e h.2),if_neg e];omega
theorem Bt.leaf (G:Good σ) (hu:Store.live σ<σ.room) (k v:List UInt8) (vv:Value) (hk:k.length=32) (hv:v.length≤1024) (hp:Pre k key d):(Ax σ k v vv).2.1=0∧Bt σ (Ax σ k v vv).2.2 key (Ax σ k v vv).1 d (.leaf k v) 1 1:=by
 obtain⟨h0,h1,h2,h3,h4,h5,h6,h7⟩:=I3 G.sound (by rw[G.used];exact hu) k v vv hv;have hme:sk (Ax σ k v vv).2.2 (Ax σ k v vv).1=some (stat (Nd.leaf (Tag.DK k (Tag.Av v)) k (Tag.Av v) v vv)):=by rw[h3,if_pos rfl]
 refine⟨h0,G.leaf k v vv hk,fun i x hx=>?_,fun i hi=>?_,by omega,by omega,h7,fun y hy=>?_,?_⟩
 · rw[h3,if_neg (fun e=>by rw[e,h2] at hx;cases hx)];exact hx
 · rw[h4]
   by_cases e:i=(Ax σ k v vv).1
   · rw[if_pos e,if_pos e,e,Dz h2 G.sound];rfl
   rw[if_neg e,if_neg e];omega
 · rw[hme] at hy;cases hy;exact hp
 have:=Rep.leaf (d:=d) hme rfl;exact this
def Tr.isNil:Tr→Bool
 | .nil=>true
 | _=>false
theorem E4 {t:Tr}:t.isNil=true↔t=.nil:=by
 cases t with
 | nil=>exact⟨fun _=>rfl,fun _=>rfl⟩
 | leaf _ _=>exact⟨fun h=>(by cases h),fun h=>(by cases h)⟩
 | node _ _=>exact⟨fun h=>(by cases h),fun h=>(by cases h)⟩
def Lu (l r:Tr):Tr:=if l.isNil=true∧r.isNode=false then r else if r.isNil=true∧l.isNode=false then l else .node l r
noncomputable def IL (σ:AD Nd) (d l r:Int):Int×AD Nd :=
 if l=0∧(nd σ r).kind≠2 then (r,σ) else if r=0∧(nd σ l).kind≠2 then (l,σ) else ((Aa σ d l r).1,(Aa σ d l r).2.2)
theorem Rep.Wp {f:View} (hz:f 0=none) {h:Int} (hr:Rep f h d t):(ndF f h).kind=2↔t.isNode=true:=by
 cases hr with
 | nil=>unfold ndF;rw[hz];exact⟨fun h=>(by cases h),fun h=>(by cases h)⟩
 | leaf hn hk=>rw[BW hn,hk];exact⟨fun h=>(by cases h),fun h=>(by cases h)⟩
 | node hn hk _ _ _=>rw[BW hn,hk];exact⟨fun _=>rfl,fun _=>rfl⟩
theorem Rep.Hv {f:View} (hz:f 0=none) {h:Int} (hr:Rep f h d t):h=0↔t=.nil:=by
 constructor
 · rintro rfl;exact hr.zero hz
 rintro rfl;cases hr with
 | nil=>rfl
theorem GB {h:Int} (hz:sk σ 0=none) (hr:Rep (sk σ) h d t):(nd σ h).kind=2↔t.isNode=true:=by
 rw[←hr.Wp hz,Eo];exact Iff.rfl
theorem UH (G:Good σ) (hd:d≤255) (rl:Rep (sk σ) l (d+1) tl) (rr:Rep (sk σ) r (d+1) tr) (pl:∀y,sk σ l=some y→Pre y.key key d∧AU y.key d=0) (pr:∀y,sk σ r=some y→Pre y.key key d∧AU y.key d=1)
 (h1:l=0→(nd σ r).kind=2) (h2:r=0→(nd σ l).kind=2):Bi d l r (nd σ l) (nd σ r)=true:=by
 have hz:=G.fit.zero;have kz:∀ {h:Int},(nd σ h).kind=2→h≠0:=fun h e=>by rw[e] at h;cases h
 rw[GS]
 have lfit:l≠0→∃y,sk σ l=some y∧B7 (ndF (sk σ) l) (d:Nat) 0=true:=fun e=>by
  obtain⟨y,y1⟩:=rl.live.resolve_left e;refine⟨y,y1,?_⟩;rw[BW y1];refine IU (fun hk=>by have:=rl.Dr y1 hz hk;omega) ?_;rw[DQ (by omega),(pl y y1).2];rfl
 have rfit:r≠0→∃y,sk σ r=some y∧B7 (ndF (sk σ) r) (d:Nat) 1=true:=fun e=>by
  obtain⟨y,y1⟩:=rr.live.resolve_left e;refine⟨y,y1,?_⟩;rw[BW y1];refine IU (fun hk=>by have:=rr.Dr y1 hz hk;omega) ?_;rw[DQ (by omega),(pr y y1).2];rfl
 unfold Bi;by_cases e1:l=0
 · have e2:=h1 e1
   have r0:=kz e2;obtain⟨y,y1,y2⟩:=rfit r0;rw[if_pos e1,if_neg r0,y2];have:(ndF (sk σ) r).kind=2:=by rw[Eo];exact e2
   simp[this]
 obtain⟨y,y1,y2⟩:=lfit e1;rw[if_neg e1];by_cases e2:r=0
 · have:=h2 e2
   have:(ndF (sk σ) l).kind=2:=by rw[Eo];exact this
   rw[if_pos e2,y2];simp[this]
 obtain⟨z,z1,z2⟩:=rfit e2;have zl:z.key.length=32:=(G.fit.all _ _ z1).key;have yl:y.key.length=32:=(G.fit.all _ _ y1).key;have:=DY yl zl (d:=d) (by omega) ((pl y y1).1.trans (pr z z1).1.symm);rw[if_neg e2,y2,z2,BW y1,BW z1];simp;omega
theorem Bt.NT (A:Bt σ σ1 k1 l (d+1) tl n1 m1) (B:Bt σ1 σ2 k2 r (d+1) tr n2 m2) (k:Int) (hk:k≠0):Store.held σ2 k=Store.held σ k+(if k=l then 1 else 0)+(if k=r then 1 else 0):=by
 rw[B.held k hk,A.held k hk]
theorem Bt.WV (G:Good σ) (hd:d≤255) (A:Bt σ σ1 k1 l (d+1) tl n1 m1) (B:Bt σ1 σ2 k2 r (d+1) tr n2 m2) (p1:Pre k1 key d) (b1:AU k1 d=0) (p2:Pre k2 key d) (b2:AU k2 d=1) (hroom:Store.live σ+n1+n2<σ.room) :
 Bt σ (IL σ2 d l r).2 key (IL σ2 d l r).1 d (Lu tl tr) (n1+n2+1) (m1+m2+1):=by
 have G2:=B.good;have hz:=G2.fit.zero;have rl:Rep (sk σ2) l (d+1) tl:=A.rep.grow B.old;have rr:=B.rep;have hh:=A.NT B;have hl:=A.live;have hl2:=B.live;have ht:=A.total;have ht2:=B.total;have hr2:σ2.room=σ.room:=B.room.trans A.room
 have pl:∀y,sk σ2 l=some y→Pre y.key key d∧AU y.key d=0:=fun y hy=>by
  obtain⟨x,hx⟩:=A.rep.live.resolve_left (fun e=>by rw[e,hz] at hy;cases hy);have:=B.old l x hx;rw[hy] at this;cases this;have h1:=A.there y hx;exact⟨(h1.less (by omega)).trans p1,(h1 d (by omega)).trans b1⟩
 have pr:∀y,sk σ2 r=some y→Pre y.key key d∧AU y.key d=1:=fun y hy=>by
  have h1:=B.there y hy;exact⟨(h1.less (by omega)).trans p2,(h1 d (by omega)).trans b2⟩
 have kl:=GB hz rl;have kr:=GB hz rr;have zl:=(rl.Hv hz).trans E4.symm;have zr:=(rr.Hv hz).trans E4.symm;have node0:∀ {t:Tr},¬t.isNode=true→t.isNode=false:=fun h=>by simpa using h
 have up:∀ {t:Tr} {h:Int},Rep (sk σ2) h (d+1) t→t.isNode=false→Rep (sk σ2) h d t:=fun hr ht=>by
  cases hr with
  | nil=>exact .nil
  | leaf hn hk=>exact .leaf hn hk
  | node _ _ _ _ _=>cases ht
 unfold IL Lu;by_cases c1:l=0∧(nd σ2 r).kind≠2
 · have t1:tl.isNil=true∧tr.isNode=false:=⟨zl.1 c1.1,node0 (fun h=>c1.2 (kr.2 h))⟩
   rw[if_pos c1,if_pos t1];refine⟨G2,fun k x hx=>B.old k x (A.old k x hx),fun k hk=>?_,(by show Store.live σ2≤_;omega),(by show Store.total σ2≤_;omega),hr2,fun y hy=>(pr y hy).1,up rr (node0 (fun h=>c1.2 (kr.2 h)))⟩;rw[hh k hk,if_neg (fun e=>hk (e.trans c1.1))];omega
 have t1:¬(tl.isNil=true∧tr.isNode=false):=fun h=>c1 ⟨zl.2 h.1,fun e=>by have:=kr.1 e;rw[h.2] at this;cases this⟩
 rw[if_neg c1,if_neg t1];by_cases c2:r=0∧(nd σ2 l).kind≠2
 · have t2:tr.isNil=true∧tl.isNode=false:=⟨zr.1 c2.1,node0 (fun h=>c2.2 (kl.2 h))⟩
   rw[if_pos c2,if_pos t2];refine⟨G2,fun k x hx=>B.old k x (A.old k x hx),fun k hk=>?_,(by show Store.live σ2≤_;omega),(by show Store.total σ2≤_;omega),hr2,fun y hy=>(pl y hy).1,up rl (node0 (fun h=>c2.2 (kl.2 h)))⟩;rw[hh k hk];rw[if_neg (c:=k=r) (fun e=>hk (e.trans c2.1))];omega
 have t2:¬(tr.isNil=true∧tl.isNode=false):=fun h=>c2 ⟨zr.2 h.1,fun e=>by have:=kl.1 e;rw[h.2] at this;cases this⟩
 rw[if_neg c2,if_neg t2]
 have h1:l=0→(nd σ2 r).kind=2:=fun e=>by
  by_cases h:(nd σ2 r).kind=2
  · exact h
  exact absurd ⟨e,h⟩ c1
 have h2:r=0→(nd σ2 l).kind=2:=fun e=>by
  by_cases h:(nd σ2 l).kind=2
  · exact h
  exact absurd ⟨e,h⟩ c2
 have hf:=UH G2 hd rl rr pl pr h1 h2;have hu:σ2.used<σ2.room:=by rw[G2.used,hr2];omega
 have sl:CO σ2 l:=⟨by
  by_cases e:l=0
  · exact .inl e
  right;have:=Bn G.sound l;rw[hh l e,if_pos rfl];split<;>omega⟩
 have sr:CO σ2 r:=⟨by
  by_cases e:r=0
  · exact .inl e
  right;have:=Bn G.sound r;rw[hh r e,if_pos (c:=r=r) rfl];split<;>omega⟩
 obtain⟨q0,q1,q2,q3,q4,q5,q6,q7⟩:=Ei G2.sound hu (by omega) (by omega) sl sr hf;obtain⟨hT,z,hz1,hz2⟩:=GP G2 hu hd sl sr hf rl rr (fun y hy=>(pl y hy).1) (fun y hy=>(pr y hy).1)
 have hnone:sk σ (Aa σ2 d l r).1=none:=by
  cases hx:sk σ (Aa σ2 d l r).1 with
  | none=>rfl
  | some x=>have:=B.old _ x (A.old _ x hx);rw[q2] at this;cases this
 have hnl:(Aa σ2 d l r).1≠l:=fun e=>by
  obtain⟨x,hx⟩:=rl.live.resolve_left (fun e0=>q1 (e.trans e0));rw[e,hx] at q2;cases q2
 have hnr:(Aa σ2 d l r).1≠r:=fun e=>by
  obtain⟨x,hx⟩:=rr.live.resolve_left (fun e0=>q1 (e.trans e0));rw[e,hx] at q2;cases q2
 have hlr:l≠0→l≠r:=fun e0 e=>by
  obtain⟨x,hx⟩:=rl.live.resolve_left e0;have e1:=(pl x hx).2;have e2:=(pr x (by rw[←e];exact hx)).2;omega
 refine⟨G2.inner _ _ _,fun k x hx=>?_,fun k hk=>?_,(by show Store.live (Aa σ2 d l r).2.2≤_;omega),(by show Store.total (Aa σ2 d l r).2.2≤_;omega),q7.trans hr2,fun y hy=>?_,hT⟩
 · have:=B.old k x (A.old k x hx)
   rw[q3,if_neg (fun e=>by rw[e,q2] at this;cases this)];exact this
 · rw[q4]
   by_cases e:k=(Aa σ2 d l r).1
   · rw[if_pos e,if_pos e,e,Dz hnone G.sound];rfl
   rw[if_neg e,if_neg e,hh k hk];by_cases e1:k=l
   · rw[if_pos ⟨hk,.inl e1⟩,if_pos e1,if_neg (fun e2=>hlr (fun e0=>hk (e1.trans e0)) (e1.symm.trans e2))];omega
   by_cases e2:k=r
   · rw[if_pos ⟨hk,.inr e2⟩,if_neg e1,if_pos e2];omega
   rw[if_neg (fun h=>h.2.elim e1 e2),if_neg e1,if_neg e2];omega
 rw[hz1] at hy;cases hy;exact hz2
theorem KW (hs:Sound σ []) {h p:Int} {y:Nd×Nat} (h0:h≠0) (hp:σ.get? p=some y) (hy:y.1.left=h∨y.1.right=h) (hh:1≤Store.held σ h) :
 (∀k,sk (An σ h).2.2 k=sk σ k)∧(∀k,Store.held (An σ h).2.2 k=Store.held σ k-(if k=h then 1 else 0)):=by
 obtain⟨x,hx,hx1⟩:=BF hh;have hc:has σ h=true∧(nd σ h).held≠0:=⟨D7 hx,by rw[Bq hx];omega⟩
 have hde:An σ h=((((Bs (bump σ h (-1)) [h] 0).1:Nat):Int),(0:Int),(Bs (bump σ h (-1)) [h] 0).2):=by unfold An;rw[if_pos hc]
 have hcm:x.1.held≤1073741824:=by
  obtain⟨j,hj,hj1,_,_⟩:=AD.Ad hx;have q1:=hs.wf.counts x (List.mem_of_getElem? hj1);have q2:=JT hs hx;omega
 have hw:wrap64 (x.1.held + -1)=x.1.held-1:=by rw[Jw (by omega) (by omega)];omega
 have hbx:(bump σ h (-1)).get? h=some (BQ x.1 (x.1.held-1),x.2):=by rw[DO hx,if_pos rfl,hw]
 have hsides:1≤sides σ h:=by
  obtain⟨j,rfl,hj,hj0,hlt⟩:=AD.Ad hp;have:part y h≤sides σ h:=Ho _ j _ (by rw[List.getElem?_map,hj];rfl);unfold part refs at this;rw[if_neg hj0] at this;rcases hy with e|e
  · rw[if_pos e] at this;omega
  rw[if_pos (c:=y.1.right=h) e] at this;omega
 have h2:x.2≠1:=fun e=>by
  have:=hs.counts h x hx;simp only[List.count_nil] at this;omega
 obtain⟨d1,d2⟩:=Lf hbx h2;have hse:(Bs (bump σ h (-1)) [h] 0).2=((bump σ h (-1)).drop Nd.zero h).2.2:=by rw[ES d1,E5]
 have hg:∀k,k≠h→(An σ h).2.2.get? k=σ.get? k:=fun k hk=>by rw[hde,hse,JC hk,DO hx,if_neg hk]
 have hm:(An σ h).2.2.get? h=some (BQ x.1 (x.1.held-1),x.2-1):=by rw[hde,hse,d2]
 refine⟨fun k=>?_,fun k=>?_⟩
 · by_cases e:k=h
   · subst e
     rw[BZ hm,BZ hx];rfl
   unfold sk;rw[hg k e]
 by_cases e:k=h
 · subst e
   rw[Bb hm,Bb hx,if_pos rfl];rfl
 rw[if_neg e];unfold Store.held nd;rw[hg k e];omega
theorem Bt.same (G:Good σ) (A:Bt σ σ1 k1 a (d+1) tl n1 m1) (B:Bt σ1 σ2 k2 b (d+1) tr n2 m2) {x:Nd} (hx:sk σ old=some x) (hk:x.kind=2) (hd:x.depth=(d:Nat)) (ha:x.left=a) (hb:x.right=b)
 (hp:Pre x.key key d) (htot:Store.total σ+m1+m2<1073741824) :
 Bt σ (Aq (if b≠0 then (An (if a≠0 then (An σ2 a).2.2 else σ2) b).2.2 else (if a≠0 then (An σ2 a).2.2 else σ2)) old) key old d (.node tl tr) (n1+n2) (m1+m2+1):=by
 have G2:=B.good;have hh:=A.NT B;have hl:=A.live;have hl2:=B.live;have ht:=A.total;have ht2:=B.total;have hr2:σ2.room=σ.room:=B.room.trans A.room;have rl:Rep (sk σ2) a (d+1) tl:=A.rep.grow B.old;have hx2:=B.old old x (A.old old x hx);obtain⟨σ3,hσ3⟩:∃σ3,σ3=(if a≠0 then (An σ2 a).2.2 else σ2):=⟨_,rfl⟩
 rw[←hσ3]
 have s3:Good σ3∧(∀k,sk σ3 k=sk σ2 k)∧(∀k,k≠0→Store.held σ3 k=Store.held σ k+(if k=b then 1 else 0))∧Store.live σ3≤Store.live σ2∧Store.total σ3≤Store.total σ2∧σ3.room=σ2.room:=by
  by_cases e:a=0
  · rw[if_neg (by simpa using e)] at hσ3
    rw[hσ3];exact⟨G2,fun _=>rfl,fun k h0=>by rw[hh k h0,if_neg (fun e2=>h0 (e2.trans e))];omega,Nat.le_refl _,Nat.le_refl _,rfl⟩
  rw[if_pos e] at hσ3;obtain⟨y,hy,rfl⟩:=FC hx2
  have h1:1≤Store.held σ2 a:=by
   have:=Bn G.sound a;rw[hh a e,if_pos rfl];split<;>omega
  obtain⟨g1,g2⟩:=KW G2.sound e hy (.inl ha) h1;obtain⟨_,_,_,_,_,g5,g6,g7⟩:=DS G2.sound h1;rw[←hσ3] at g1 g2 g5 g6 g7;refine⟨by rw[hσ3];exact G2.drop a,g1,fun k h0=>?_,g5,g6,g7⟩;rw[g2,hh k h0];omega
 obtain⟨G3,v1,v2,v3,v4,v5⟩:=s3;clear hσ3;have hx3:sk σ3 old=some x:=by rw[v1];exact hx2
 obtain⟨σ4,hσ4⟩:∃σ4,σ4=(if b≠0 then (An σ3 b).2.2 else σ3):=⟨_,rfl⟩
 rw[←hσ4]
 have s4:Good σ4∧(∀k,sk σ4 k=sk σ2 k)∧(∀k,k≠0→Store.held σ4 k=Store.held σ k)∧Store.live σ4≤Store.live σ2∧Store.total σ4≤Store.total σ2∧σ4.room=σ2.room:=by
  by_cases e:b=0
  · rw[if_neg (by simpa using e)] at hσ4
    rw[hσ4];exact⟨G3,v1,fun k h0=>by rw[v2 k h0,if_neg (fun e2=>h0 (e2.trans e))];omega,v3,v4,v5⟩
  rw[if_pos e] at hσ4;obtain⟨y,hy,rfl⟩:=FC hx3
  have h1:1≤Store.held σ3 b:=by
   have:=Bn G.sound b;rw[v2 b e,if_pos rfl];omega
  obtain⟨g1,g2⟩:=KW G3.sound e hy (.inr hb) h1;obtain⟨_,_,_,_,_,g5,g6,g7⟩:=DS G3.sound h1;rw[←hσ4] at g1 g2 g5 g6 g7;refine⟨by rw[hσ4];exact G3.drop b,fun k=>(g1 k).trans (v1 k),fun k h0=>?_,by omega,by omega,g7.trans v5⟩;rw[g2,v2 k h0];omega
 obtain⟨G4,u1,u2,u3,u4,u5⟩:=s4;have e4:sk σ4=sk σ2:=funext u1
 have hr:Rep (sk σ4) old d (.node tl tr):=by
  rw[e4];refine .node hx2 hk hd ?_ ?_
  · rw[ha];exact rl
  rw[hb];exact B.rep
 have hK:=Bt.kept (key:=key) G4 hr (fun y hy=>by rw[e4,hx2] at hy;cases hy;exact hp) (by omega);refine⟨hK.good,fun k y hy=>hK.old k y (by rw[u1];exact B.old k y (A.old k y hy)),fun k h0=>by rw[hK.held k h0,u2 k h0],?_,?_,hK.room.trans (u5.trans hr2),hK.there,hK.rep⟩
 · have:=hK.live;omega
 have:=hK.total;omega
theorem JU {L:AS} {k:List UInt8}:∀ {m:Nat},L.Ok k (256-m)→(tree m L=.nil↔L = []):=by
 intro m hL
 match m,L,hL with
 | m,[],_=>exact⟨fun _=>rfl,fun _=>CD m⟩
 | m,[p],_=>rw[BU];exact⟨fun h=>(by cases h),fun h=>(by cases h)⟩
 | 0,p::q::R,hL=>have:=hL.few;simp at this
 | m+1,p::q::R,_=>exact⟨fun h=>(by cases h),fun h=>(by cases h)⟩
theorem Ed {L:AS} {k:List UInt8}:∀ {m:Nat},L.Ok k (256-m)→((tree m L).isNode=true↔2≤L.length):=by
 intro m hL
 match m,L,hL with
 | m,[],_=>rw[CD];exact⟨fun h=>(by cases h),fun h=>(by simp at h)⟩
 | m,[p],_=>rw[BU];exact⟨fun h=>(by cases h),fun h=>(by simp at h)⟩
 | 0,p::q::R,hL=>have:=hL.few;simp at this
 | m+1,p::q::R,_=>exact⟨fun _=>(by simp),fun _=>rfl⟩
theorem Cx (d:Nat):∀L:AS,(sideE 0 d L).length+(sideE 1 d L).length=L.length
 | []=>rfl
 | p::L=>by
  have ih:=Cx d L;unfold sideE at ih ⊢;rcases Au p.1 d with e|e<;>simp[e]<;>omega
theorem NJ {L:AS} {k:List UInt8} {m:Nat} (hm:m+1≤256) (hk:k.length=32) (hL:L.Ok k (255-m)):Lu (tree m (sideE 0 (255-m) L)) (tree m (sideE 1 (255-m) L))=tree (m+1) L:=by
 obtain⟨k1,_,a1,a2⟩:=GU k hk (d:=255-m) (by omega) 0 (.inl rfl);obtain⟨k2,_,b1,b2⟩:=GU k hk (d:=255-m) (by omega) 1 (.inr rfl);have h1:=hL.Hu a1 a2;have h2:=hL.Hu b1 b2;rw[show 255-m+1=256-m by omega] at h1 h2;have hs:=Cx (255-m) L;have n1:=E4.trans (JU h1);have n2:=E4.trans (JU h2);have i1:=Ed h1;have i2:=Ed h2;obtain⟨E0,hE0⟩:∃E,E=sideE 0 (255-m) L:=⟨_,rfl⟩
 obtain⟨E1,hE1⟩:∃E,E=sideE 1 (255-m) L:=⟨_,rfl⟩
 have tw:2≤L.length→tree (m+1) L=.node (tree m E0) (tree m E1):=fun h=>by rw[Bu h,hE0,hE1]
 have s0:∀p∈E0,p∈L:=fun p hp=>by rw[hE0] at hp;exact(List.mem_filter.1 hp).1
 have s1:∀p∈E1,p∈L:=fun p hp=>by rw[hE1] at hp;exact(List.mem_filter.1 hp).1
 rw[←hE0, ←hE1] at hs;rw[←hE0] at n1 i1;rw[←hE1] at n2 i2;rw[←hE0, ←hE1];have len0:∀ {E:AS},E = []↔E.length=0:=fun {E} => List.length_eq_zero_iff.symm
 have nf:∀ {t:Tr} {c:Prop},(t.isNode=true↔c)→(t.isNode=false↔¬c):=fun {t c} h=>by rw[←h];simp
 unfold Lu
 have one:∀ {E:AS},E.length=1→L.length=1→(∀p∈E,p∈L)→tree m E=tree (m+1) L:=fun {E} h1 h2 hs=>by
  obtain⟨p,rfl⟩:=List.length_eq_one_iff.1 h1;obtain⟨q,rfl⟩:=List.length_eq_one_iff.1 h2;obtain rfl:=List.mem_singleton.1 (hs p (List.mem_singleton.2 rfl));rw[BU,BU]
 by_cases c1:(tree m E0).isNil=true∧(tree m E1).isNode=false
 · rw[if_pos c1]
   have e0:=len0.1 (n1.1 c1.1);have e1:=(nf i2).1 c1.2;by_cases e2:E1.length=0
   · rw[len0.2 e2,CD,len0.2 (show L.length=0 by omega),CD]
   exact one (by omega) (by omega) s1
 rw[if_neg c1];by_cases c2:(tree m E1).isNil=true∧(tree m E0).isNode=false
 · rw[if_pos c2]
   have e0:=len0.1 (n2.1 c2.1);have e1:=(nf i1).1 c2.2;by_cases e2:E0.length=0
   · exact absurd ⟨n1.2 (len0.2 e2),(nf i2).2 (by omega)⟩ c1
   exact one (by omega) (by omega) s0
 rw[if_neg c2];refine(tw ?_).symm
 have e1:E0.length=0→2≤E1.length:=fun e=>by
  by_cases h:2≤E1.length
  · exact h
  exact absurd ⟨n1.2 (len0.2 e),(nf i2).2 h⟩ c1
 have e2:E1.length=0→2≤E0.length:=fun e=>by
  by_cases h:2≤E0.length
  · exact h
  exact absurd ⟨n2.2 (len0.2 e),(nf i1).2 h⟩ c2
 omega
end
end Go.Proofs.YtngbdbpofifimaaGreat.Store

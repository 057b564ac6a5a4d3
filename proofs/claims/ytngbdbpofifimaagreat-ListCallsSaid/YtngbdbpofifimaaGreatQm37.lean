/- Laws of the layers below. -/
import Derived.Test.YtngbdbpofifimaaGreatQm36
import Derived.RangeFuncKeeps
import Derived.Shelf.Abstract
import Derived.Test.YtngbdbpofifimaaGreatQm35
set_option maxHeartbeats 3200000
set_option maxRecDepth 100000
set_option linter.unusedVariables false
namespace Go.Proofs.YtngbdbpofifimaaGreat.Store
open Go.RowKit Go.Sort Go.Proofs.YtngbdbpofifimaaGreat.ShaW Go.Proofs.YtngbdbpofifimaaGreat.Path Go.Proofs.YtngbdbpofifimaaGreat.Bk
theorem Ii {w:World} {ao bo:Option Addr} {l1 l2:List Pr} (ca cb:Nat) (h1:Ba w ao l1) (h2:Ba w bo l2) (hl1:l1.length≤65536) (hl2:l2.length≤65536) :
 Calls Tryz.prog 28 #[.slice ao l1.length ca,.slice bo l2.length cb] w fun e w'=>e=.returned (.bool (decide (l1.map Pr.ent=l2.map Pr.ent)))∧AN w w':=by
 obtain⟨n,hn⟩:∃n,n=l1.length:=⟨_,rfl⟩
 obtain⟨m,hm⟩:∃m,m=l2.length:=⟨_,rfl⟩
 rw[←hn, ←hm];rw[←hn] at hl1;rw[←hm] at hl2;have HP:=(hIq h1 h2)
 have HL:=(hIq hn hm)
 rcases Nat.decEq n m with hnm|hnm
 · have hf:decide (l1.map Pr.ent=l2.map Pr.ent)=false:=decide_eq_false (fun e=>hnm (by have:=congrArg List.length e;simpa[hn,hm] using this))
   rw[hf];have hd:((n:Int) != (m:Int))=true:=by simp;omega
   have hd':¬(n:Int)=(m:Int):=by omega
   clear h1 h2 hn hm hnm hf;go_enter Tryz.func28,Tryz.ntmps28;go_wp2;go_ret;exact⟨rfl,Ch.refl _ _⟩
 subst hnm;obtain⟨r,hr⟩:∃r,r=decide (l1.map Pr.ent=l2.map Pr.ent):=⟨_,rfl⟩
 rw[←hr];have HR:=Lib.hid hr;clear h1 h2 hn hm hr hl2;go_enter Tryz.func28,Tryz.ntmps28;go_wp2;go_loopw [5] (fun i wr=>∃k:Nat,k≤n∧i=.int .i64 k∧(l1.take k).map Pr.ent=(l2.take k).map Pr.ent∧AN w wr) (fun i _=>n-(intOf i).toNat)
 case atStart=>exact⟨0,Nat.zero_le _,rfl,by simp,Ch.refl _ _⟩
 obtain⟨k,hk,rfl,hpre,hA⟩:=hrel;by_cases hlt:k<n
 · obtain⟨x,hx⟩:∃x,l1[k]?=some x:=⟨_,List.getElem?_eq_getElem (by have:=HL.out.1;omega)⟩
   obtain⟨y,hy⟩:∃y,l2[k]?=some y:=⟨_,List.getElem?_eq_getElem (by have:=HL.out.2;omega)⟩
   have hp1:=HP.out.1.Ae hA (fun _=>fEq);have hp2:=HP.out.2.Ae hA (fun _=>fEq);have gx:=hp1.1 x (List.mem_of_getElem? hx);have gy:=hp2.1 y (List.mem_of_getElem? hy);obtain⟨ga,oa,rfl,cA,tA,fA,a1,a2,a3⟩:=hp1.2 k x hx;obtain⟨gb,ob,rfl,cB,tB,fB,b1,b2,b3⟩:=hp2.2 k y hy;rw[Pr.size gx.key] at a2 a3;rw[Pr.size gy.key] at b2 b3;obtain⟨ax,av⟩:=CG gx.key a3;obtain⟨by',bv'⟩:=CG gy.key b3;have c1:=AH (AM a1) av;have c2:=AH (AM b1) bv';have hq:=Hy 47 Tryz.underlying47 x.key y.key gx.key gy.key;have hsb:=FY (gx.val.Ae ((Ch.refl (fun _=>False) _).drew) (fun _ _ h=>h)) (gy.val.Ae ((Ch.refl (fun _=>False) _).drew) (fun _ _ h=>h));obtain⟨xo,xc,hxv,_⟩:=gx.val.form;obtain⟨yo,yc,hyv,_⟩:=gy.val.form;rw[hxv,hyv] at hsb;rw[hxv] at c1;rw[hyv] at c2;obtain⟨KX,hKX⟩:∃K,K=AS x.key:=⟨_,rfl⟩
   obtain⟨KY,hKY⟩:∃K,K=AS y.key:=⟨_,rfl⟩
   rw[←hKX] at ax hq;rw[←hKY] at by' hq
   obtain⟨q,hqd⟩:∃q,q=decide (x.key=y.key):=⟨_,rfl⟩
   rw[←hqd] at hq;obtain⟨u,hud⟩:∃u,u=decide (x.val=y.val):=⟨_,rfl⟩
   rw[←hud] at hsb
   have hstep:(q&&u)=true→(l1.take (k+1)).map Pr.ent=(l2.take (k+1)).map Pr.ent:=fun h=>by
    rw[Bool.and_eq_true,hqd,hud,decide_eq_true_eq,decide_eq_true_eq] at h;rw[Hc hx,Hc hy,List.map_append,List.map_append,hpre];simp[Pr.ent,h.1,h.2]
   have hstop:(q&&u)=false→r=false:=fun h=>by
    rw[HR.out,decide_eq_false_iff_not];intro e;have e1:(l1.map Pr.ent)[k]?=(l2.map Pr.ent)[k]?:=by rw[e]
    rw[List.getElem?_map,List.getElem?_map,hx,hy] at e1;simp[Pr.ent] at e1;rw[hqd,hud,decide_eq_true e1.1,decide_eq_true e1.2] at h;cases h
   have HA:=(hIq a1 (aIq a2 ax))
   have HB:=(hIq b1 (aIq b2 by'))
   have HSB:=Lib.hid hsb;have HST:=(hIq hstep (aIq hstop hA))
   have hkn:(k:Int)<(n:Int):=by omega
   have hk0:(0:Int)≤(k:Int):=by omega
   clear hx hy hp1 hp2 gx gy a1 a2 a3 b1 b2 b3 ax by' av bv' hKX hKY hqd hud hxv hyv hsb hstep hstop hA hpre hk
   cases q with
   | false =>
    go_wp2_with fail;refine AP (fun w0=>w0=wr.drew) 25 [(0,false),(1,false),(2,false),(3,false),(4,false),(5,false),(6,false),(7,false),(8,false),(9,false),(10,false),(11,false),(12,false),(13,false),(14,false),(15,false),(16,false),(17,false),(18,false),(19,false),(20,false),(21,false),(22,false),(23,false),(24,false)] (by kernel_rfl) (by kernel_rfl) ?_ ?_
    · rfl
    iterate 4
     refine plan_look rfl rfl (fun w0 hS=>(by subst hS;go_simp;try rfl)) ?_;simp only[Act.put,nAq,nBq,nCq]
    refine Aa (cur:=cA) (t:=tA) (fr:=fA) rfl rfl 47 _ rfl ga (oa+k*33) 32 rfl (fun w0 hS=>by subst hS;exact AM HA.out.1) Tryz.underlying47 rfl Ab (by have:=HA.out.2.1;omega) KX HA.out.2.2 ?_;simp only[Act.put,nAq,nBq,nCq]
    iterate 4
     refine plan_look rfl rfl (fun w0 hS=>(by subst hS;go_simp;try rfl)) ?_;simp only[Act.put,nAq,nBq,nCq]
    refine Aa (cur:=cB) (t:=tB) (fr:=fB) rfl rfl 47 _ rfl gb (ob+k*33) 32 rfl (fun w0 hS=>by subst hS;exact AM HB.out.1) Tryz.underlying47 rfl Ab (by have:=HB.out.2.1;omega) KY HB.out.2.2 ?_;simp only[Act.put,nAq,nBq,nCq]
    iterate 2
     refine plan_look (v:=.bool true) rfl rfl (fun w0 hS=>(by subst hS;go_simp;try rfl)) ?_;simp only[Act.put,nAq,nBq,nCq]
    iterate 12
     refine BN rfl rfl ?_;simp only[Act.put,nAq,nBq,nCq]
    iterate 1
     refine plan_look (v:=.bool true) rfl rfl (fun w0 hS=>(by subst hS;go_simp;try rfl)) ?_;simp only[Act.put,nAq,nBq,nCq]
    refine AZ ?_;simp only[List.drop_succ_cons,List.drop_zero];go_wp2;refine NoPanic.normal ?_;go_wp2;go_ret;exact⟨by rw[HST.out.2.1 rfl];rfl,HST.out.2.2.drew⟩
   | true =>
    go_wp2_with fail;refine AP (fun w0=>w0=wr.drew) 25 [(0,false),(1,false),(2,false),(3,false),(4,false),(5,false),(6,false),(7,false),(8,false),(9,false),(10,false),(11,false),(12,false),(13,false),(14,false),(15,false),(16,false),(17,false),(18,false),(19,false),(20,false),(21,false),(22,true),(23,false),(24,false)] (by kernel_rfl) (by kernel_rfl) ?_ ?_
    · rfl
    iterate 4
     refine plan_look rfl rfl (fun w0 hS=>(by subst hS;go_simp;try rfl)) ?_;simp only[Act.put,nAq,nBq,nCq]
    refine Aa (cur:=cA) (t:=tA) (fr:=fA) rfl rfl 47 _ rfl ga (oa+k*33) 32 rfl (fun w0 hS=>by subst hS;exact AM HA.out.1) Tryz.underlying47 rfl Ab (by have:=HA.out.2.1;omega) KX HA.out.2.2 ?_;simp only[Act.put,nAq,nBq,nCq]
    iterate 4
     refine plan_look rfl rfl (fun w0 hS=>(by subst hS;go_simp;try rfl)) ?_;simp only[Act.put,nAq,nBq,nCq]
    refine Aa (cur:=cB) (t:=tB) (fr:=fB) rfl rfl 47 _ rfl gb (ob+k*33) 32 rfl (fun w0 hS=>by subst hS;exact AM HB.out.1) Tryz.underlying47 rfl Ab (by have:=HB.out.2.1;omega) KY HB.out.2.2 ?_;simp only[Act.put,nAq,nBq,nCq]
    iterate 2
     refine plan_look (v:=.bool false) rfl rfl (fun w0 hS=>(by subst hS;go_simp;try rfl)) ?_;simp only[Act.put,nAq,nBq,nCq]
    iterate 4
     refine plan_look rfl rfl (fun w0 hS=>(by subst hS;go_simp;try rfl)) ?_;simp only[Act.put,nAq,nBq,nCq]
    refine plan_look (v:=.slice xo x.val.length xc) rfl rfl (fun w0 hS=>(by subst hS;go_simp;try rfl)) ?_;simp only[Act.put,nAq,nBq,nCq]
    iterate 4
     refine plan_look rfl rfl (fun w0 hS=>(by subst hS;go_simp;try rfl)) ?_;simp only[Act.put,nAq,nBq,nCq]
    refine plan_look (v:=.slice yo y.val.length yc) rfl rfl (fun w0 hS=>(by subst hS;go_simp;try rfl)) ?_;simp only[Act.put,nAq,nBq,nCq];refine AW rfl ?_;go_wp2_with fail;refine HSB.out.mono ?_;rintro e w3 ⟨rfl,rfl⟩;dsimp only;go_step;refine wpList_nil ?_;change _∧_;refine⟨rfl,?_⟩;cases u with
    | true =>
     iterate 2
      refine plan_look (v:=.bool false) rfl rfl (fun w0 hS=>(by subst hS;go_simp;try rfl)) ?_;simp only[Act.put,nAq,nBq,nCq]
     refine AZ ?_;simp only[List.drop_succ_cons,List.drop_zero];go_wp2;refine NoPanic.normal ?_;go_wp2;go_roundw
     case rel=>exact⟨k+1,by omega,by first|rfl|simp,HST.out.1 rfl,HST.out.2.2.drew⟩
     simp[intOf];omega
    | false =>
     iterate 2
      refine plan_look (v:=.bool true) rfl rfl (fun w0 hS=>(by subst hS;go_simp;try rfl)) ?_;simp only[Act.put,nAq,nBq,nCq]
     refine AZ ?_;simp only[List.drop_succ_cons,List.drop_zero];go_wp2;refine NoPanic.normal ?_;go_wp2;go_ret;exact⟨by rw[HST.out.2.1 rfl];rfl,HST.out.2.2.drew⟩
 obtain rfl:k=n:=by omega
 have hfull:r=true:=by
  rw[HR.out,decide_eq_true_eq]
  rwa [List.take_of_length_le (by have:=HL.out.1;omega),List.take_of_length_le (by have:=HL.out.2;omega)] at hpre
 have HA:=Lib.hid hA;subst hfull;clear hpre hA hk hlt;go_wp2;go_ret;exact⟨rfl,HA.out⟩
section
variable {w : World} {s : Nat} {F : Nat→Prop} {σ : AG Nd} {root : Int} {t : Tr}
def SeqIs (base:Nat) (w:World) (e:Av) (q:Value):Prop:=∃(b:Nat) (v:Value) (out:List Pr),q=.func (.func 171) #[] #[.pointer (some ⟨b,0,none⟩)]∧base≤b∧w.heap[b]?=some (.cells #[v] 56 (0,0))∧Told base w v out∧out.map Pr.ent=e∧v.ownBlock≠some b∧∀x∈out,x.vv.ownBlock≠some b
theorem Told.none (base:Nat) (w:World):Told base w (.slice none 0 0) []:=⟨RowP.nil _ _,(fun x hx=>absurd hx List.not_mem_nil),List.Pairwise.nil,(fun x hx=>absurd hx List.not_mem_nil)⟩
theorem Told.VS {b b':Nat} {v:Value} {out:List Pr} (h:Told b w v out) (hb:b'≤b):Told b' w v out :=
 ⟨(show RowP _ _ _ _ from h.row).base (fun k hk=>Nat.le_trans hb (h.row.lt k hk).1),fun x hx=>by obtain⟨p,q,r⟩:=h.vals x hx;exact⟨p,q,fun k hk=>⟨Nat.le_trans hb (r k hk).1,(r k hk).2⟩⟩,h.apart,h.whole⟩
theorem UX (h:At w s F σ) (G:Good σ) (hr:Rep (sk σ) root 0 t) (h0:AX σ root=0) (key:List UInt8) (hk:key.length=32) :
 Calls Tryz.prog 25 #[.pointer (some ⟨s,0,none⟩),.int .i64 root,.agg (AS key)] w fun e w'=>∃q,e=.returned q∧SeqIs w.heap.size w' (t.from key) q∧AN w w':=by
 obtain⟨K,hK⟩:∃K,K=AS key:=⟨_,rfl⟩
 have hKs:K.size=32:=by rw[hK,AU,hk]
 have ha:AN w (w.alloc (.cells K 47)):=(Ch.refl _ _).alloc _;have hrt:=Store.CU (h.adds ha) root;rw[h0] at hrt;have hrk:=fun w1 (a:AN w w1)=>PY (h.adds a) G hr key hk (-1)
 rw[show t.some key (-1)=t.from key by unfold Tr.some;rw[if_pos (by omega)]] at hrk;rw[←hK] at hrk ⊢;have HR:=Lib.hid hrt;have HS:=Lib.hid hrk;have HK:=Lib.hid hKs;have HA:=Lib.hid ha;clear h G hr h0 hrt hrk hK hKs hk ha;go_enter Tryz.func25,Tryz.ntmps25;go_wp2_with fail;refine HR.out.mono ?_;rintro e w1 ⟨rfl,a1⟩;have A1:=(hIq (HA.out.trans a1 (fun _=>fEq)) (a1.row (Ma w K) id))
 clear a1
 go_wp2_with (first
  | fail
  | ((with_reducible show zOq (.load 47 _));refine AJ rfl 47 _ rfl w.heap.size 0 rfl A1.out.2 Tryz.underlying47 rfl Ab (by rw[HK.out];omega) K (by have:=HK.out;simp[←this]) ?_))
 refine(HS.out _ A1.out.1).mono ?_;rintro e w2 ⟨v,out,rfl,ht,he,a2⟩;obtain⟨vo,vc,rfl⟩:=ht.row.form;have A2:=(hIq ht (aIq he (aIq (A1.out.1.trans a2 (fun _=>fEq)) A1.out.1.size)))
 obtain⟨n,hn⟩:∃n,n=out.length:=⟨_,rfl⟩
 have HN:=Lib.hid hn;rw[←hn];clear a2 ht he hn;go_wp2_with fail;refine(Pc vo n vc w2).mono ?_;rintro e w3 ⟨rfl,hw3⟩;have a3:AN w2 w3:=by rw[←hw3];exact(Ch.refl _ _).alloc _
 have r3:w3.heap[w2.heap.size]?=some (.cells #[.slice vo n vc] 56 (0,0)):=by rw[←hw3];exact heap_alloc_new _ _
 have A3:=(hIq a3 r3)
 clear hw3 a3 r3;go_wp2;go_ret;have hle:=A2.out.2.2.1.size;refine⟨_,rfl,⟨w2.heap.size,_,out,rfl,hle,A3.out.2,?_,A2.out.2.1,?_,?_⟩,A2.out.2.2.1.trans A3.out.1 (fun _=>fEq)⟩
 · have:=(A2.out.1.VS A2.out.2.2.2).adds A3.out.1
   rwa [←HN.out] at this
 · intro e
   have:=(A2.out.1.row.lt _ (by rw[←HN.out];exact e)).2;omega
 intro x hx e;have:=((A2.out.1.vals x hx).2.2 _ e).2.1;omega
theorem Tt (h:At w s F σ) (h0:AX σ root≠0) (K:Array Value) :
 Calls Tryz.prog 25 #[.pointer (some ⟨s,0,none⟩),.int .i64 root,.agg K] w fun e w'=>∃q,e=.returned q∧SeqIs w.heap.size w' [] q∧AN w w':=by
 have ha:AN w (w.alloc (.cells K 47)):=(Ch.refl _ _).alloc _;have hrt:=Store.CU (h.adds ha) root;obtain⟨c,hc⟩:∃c,c=AX σ root:=⟨_,rfl⟩
 rw[←hc] at hrt h0;have HR:=Lib.hid hrt;have HA:=Lib.hid ha;clear h hc hrt ha;go_enter Tryz.func25,Tryz.ntmps25;go_wp2_with fail;refine HR.out.mono ?_;rintro e w1 ⟨rfl,a1⟩;have A1:=Lib.hid (HA.out.trans a1 (fun _=>fEq));clear a1;go_wp2_with fail;refine(Pc none 0 0 w1).mono ?_;rintro e w3 ⟨rfl,hw3⟩;have a3:AN w1 w3:=by rw[←hw3];exact(Ch.refl _ _).alloc _
 have r3:w3.heap[w1.heap.size]?=some (.cells #[.slice none 0 0] 56 (0,0)):=by rw[←hw3];exact heap_alloc_new _ _
 have A3:=(hIq a3 r3)
 clear hw3 a3 r3;go_wp2;go_ret;exact⟨_,rfl,⟨w1.heap.size,_,[],rfl,A1.out.size,A3.out.2,Told.none _ _,rfl,(fun e=>by cases e),(fun x hx=>by cases hx)⟩,A1.out.trans A3.out.1 (fun _=>fEq)⟩
theorem Vl {S:Value} {R:Value→World→Prop} (h:Calls Tryz.prog 25 #[S,.int .i64 root,.agg (AS (List.replicate 32 0))] w fun e w'=>∃q,e=.returned q∧R q w') (hS:∃p,S=.pointer p) :
 Calls Tryz.prog 24 #[S,.int .i64 root] w fun e w'=>∃q,e=.returned q∧R q w':=by
 obtain⟨p,rfl⟩:=hS;have hzb:Tryz.prog.built 47 []=some (AS (List.replicate 32 0)):=by kernel_rfl
 obtain⟨Z,hZ⟩:∃Z,Z=AS (List.replicate 32 0):=⟨_,rfl⟩
 rw[←hZ] at hzb h;have H:=Lib.hid h;have HZ:=Lib.hid hzb;clear h hZ hzb;go_enter Tryz.func24,Tryz.ntmps24
 go_wp2_with (first
  | fail
  | ((with_reducible show zOq (.build 47 _));refine Ax rfl 47 rfl Z HZ.out ?_))
 refine H.out.mono ?_;rintro e w1 ⟨q,rfl,hR⟩;have HR:=Lib.hid hR;clear hR;go_wp2;go_ret;exact⟨_,rfl,HR.out⟩
end
end Go.Proofs.YtngbdbpofifimaaGreat.Store
namespace Go.Proofs.YtngbdbpofifimaaGreat.Store
open Go.RowKit Go.Shelf Go.Sort Go.Proofs.YtngbdbpofifimaaGreat.ShaW Go.Proofs.YtngbdbpofifimaaGreat.Path Go.Proofs.YtngbdbpofifimaaGreat.Bk
attribute [local go_sem] Oper.semAt_some
theorem NJ {F:Nat→Prop} {W W':World} (h:Ch F W W') (hF:∀k,F k→∃cur ty fr,W.heap[k]?=some (.cells cur ty fr)):KeepsOthers W W' :=
 ⟨h.size,fun k o hk ho=>by
  by_cases hf:F k
  · obtain⟨cur,ty,fr,hc⟩:=hF k hf
    rw[hc] at hk;cases hk;cases ho
  exact(h.block k (Ad hk) hf).trans hk⟩
theorem BA.put {W:World} {n0 l:Nat} {v:Value} {bs:List UInt8} {o o':Obj} (h:BA W n0 v bs) (hl:W.heap[l]?=some o) (ho:o.isCells=false):BA (W.putObj l o') n0 v bs:=by
 rcases h with h|⟨g,cp,all,rfl,h1,h2,h3⟩
 · exact .inl h
 refine .inr ⟨g,cp,all,rfl,h1,?_,h3⟩;by_cases e:l=g
 · subst e
   rw[h2] at hl;cases hl;cases ho
 exact(World.putObj_heap_other (Ne.symm e)).trans h2
theorem BA.other {W:World} {n0 b:Nat} {v:Value} {bs:List UInt8} {cur:Array Value} {ty:TypeId} {fr:Nat×Nat} (h:BA W n0 v bs) (hb:W.heap[b]?=some (.cells cur ty fr)) (ht:ty≠5):v.ownBlock≠some b:=by
 rcases h with⟨rfl,_⟩|⟨g,cp,all,rfl,h1,h2,h3⟩
 · intro e;cases e
 intro e;cases e;rw[h2] at hb;cases hb;exact ht rfl
theorem BA.cells {W:World} {n0:Nat} {v:Value} {bs:List UInt8} (h:BA W n0 v bs):∀k,v.ownBlock=some k→∃cur ty fr,W.heap[k]?=some (.cells cur ty fr):=fun k hk=>by
 rcases h with⟨rfl,_⟩|⟨g,cp,all,rfl,h1,h2,h3⟩
 · cases hk
 cases hk;exact⟨_,_,_,h2⟩
theorem T6 {α:Type} (t:Array α) (p1 p2:Nat) (v1 v2:α):(#[p1,p2].zip #[v1,v2]).foldl (fun t (p,v)=>t.setIfInBounds p v) t=(t.setIfInBounds p1 v1).setIfInBounds p2 v2:=by
 rw[show #[p1,p2].zip #[v1,v2]=#[(p1,v1),(p2,v2)] by simp];rfl
structure GoI (w:World) (wv:Value) (stop:Int) (m:Nat) (W:World):Prop where
 adds:AN w W
 want:W.heap[w.heap.size]?=some (.cells #[wv] 56 (0,0))
 stop:W.heap[w.heap.size+1]?=some (.cells #[.int .i64 stop] 3 (0,0))
 ans:W.heap[w.heap.size+2]?=some (.cells #[.bool false] 4 (0,0))
 cnt:W.heap[w.heap.size+3]?=some (.cells #[.int .i64 (m:Nat)] 3 (0,0))
theorem GoI.Ae {w:World} {wv:Value} {stop:Int} {m:Nat} {W W':World} (h:GoI w wv stop m W) {F:Nat→Prop} (c:Ch F W W') (hF:∀k,F k→w.heap.size≤k∧k≠w.heap.size∧k≠w.heap.size+1∧k≠w.heap.size+2∧k≠w.heap.size+3):GoI w wv stop m W' :=
 ⟨h.adds.trans c (fun k hk=>.inr (hF k hk).1),c.row h.want (fun hf=>(hF _ hf).2.1 rfl),c.row h.stop (fun hf=>(hF _ hf).2.2.1 rfl),c.row h.ans (fun hf=>(hF _ hf).2.2.2.1 rfl),c.row h.cnt (fun hf=>(hF _ hf).2.2.2.2 rfl)⟩
theorem GoI.own (w:World) (wv:Value) (stop:Int):OwnFrom (w.heap.size+4) (fun(pre:List Pr) W=>GoI w wv stop pre.length W):=fun s W W' row hs hg hr=>by
 have hb:∀ {k:Nat} {o:Obj},k<w.heap.size+4→W.heap[k]?=some o→W'.heap[k]?=some o:=fun {k o} hk h=>(hg.block _ (Ad h) (fun e=>by have:=(hr _ e.symm).1;omega)).trans h
 exact⟨hs.adds.grown hg (fun k hk=>.inr (by have:=(hr k hk).1;omega)),hb (by omega) hs.want,hb (by omega) hs.stop,hb (by omega) hs.ans,hb (by omega) hs.cnt⟩
def GoX (w:World) (c:Code) (W:World):Prop:=c=.ret∧AN w W∧W.heap[w.heap.size+2]?=some (.cells #[.bool true] 4 (0,0))
theorem GoX.own (w:World) (c:Code):OwnFrom (w.heap.size+4) (fun(pre:List Pr) W=>GoX w c W):=fun s W W' row hs hg hr =>
 ⟨hs.1,hs.2.1.grown hg (fun k hk=>.inr (by have:=(hr k hk).1;omega)),(hg.block _ (Ad hs.2.2) (fun e=>by have:=(hr _ e.symm).1;omega)).trans hs.2.2⟩
def Pg (w:World) (q wv:Value) (stop:Int) (p:Nat) (k:Array Value) (v:Value):Array Value :=
 #[q,wv,.int .i64 stop,undef,.pointer (some ⟨w.heap.size,0,none⟩),.pointer (some ⟨w.heap.size+1,0,none⟩),.pointer (some ⟨w.heap.size+1+1,0,none⟩),.pointer (some ⟨w.heap.size+1+1+1,0,none⟩),.pointer (some ⟨p,0,none⟩),v,q,.bool false,q,.agg k,v,
  undef,undef,undef,undef,undef,undef,undef,undef,undef,undef,undef,undef,undef,undef,undef,undef,undef,undef,undef,undef,undef,undef,undef,undef,undef,undef,undef,undef,undef,undef,undef,undef,undef,undef]
structure GoB (w:World) (q wv:Value) (stop:Int) (out:List Pr) (pre:List Pr) (x:Pr) (a:Act) (p:Nat) (W:World):Prop where
 act:a = { tmps:=Pg w q wv stop p (AS x.key) x.vv,defers := [] }
 inv:GoI w wv stop pre.length W
 yv:Yv w.heap.size out pre x W
 box:W.heap[p]?=some (.cells (AS x.key) 47 (0,0))
 far:w.heap.size+4≤p
theorem Yv.put {n0 l:Nat} {out pre:List Pr} {x:Pr} {W:World} {o o':Obj} (h:Yv n0 out pre x W) (hl:W.heap[l]?=some o) (ho:o.isCells=false):Yv n0 out pre x (W.putObj l o'):=by
 obtain⟨y,h1,h2,h3,h4,h5⟩:=h;exact⟨y,h1,h2,h3,h4,h5.put hl ho⟩
theorem Yv.Ae {n0:Nat} {out pre:List Pr} {x:Pr} {W W':World} (h:Yv n0 out pre x W) (a:AN W W'):Yv n0 out pre x W':=by
 obtain⟨y,h1,h2,h3,h4,h5⟩:=h;exact⟨y,h1,h2,h3,h4,h5.Ae a (fun _ _ h=>h)⟩
theorem GoB.put {w:World} {q wv:Value} {stop:Int} {out pre:List Pr} {x:Pr} {a:Act} {p l:Nat} {W:World} {o o':Obj} (h:GoB w q wv stop out pre x a p W) (hl:w.heap.size+4≤l) (hW:W.heap[l]?=some o) (ho:o.isCells=false):GoB w q wv stop out pre x a p (W.putObj l o') :=
 ⟨h.act,(GoI.own w wv stop).putObj _ h.inv hl hW ho,h.yv.put hW ho,by
  by_cases e:l=p
  · subst e
    have:=h.box;rw[this] at hW;cases hW;cases ho
  exact(World.putObj_heap_other (Ne.symm e)).trans h.box,h.far⟩
theorem Pd {w:World} {base:Nat} {E:Av} {q:Value} (hs:SeqIs base w E q) {wo:Option Addr} {l:List Pr} (ca:Nat) (hp:Ba w wo l) (hE:E=l.map Pr.ent) (hl:l.length≤65536) (hv:∀x∈l,x.val.length≤1024) (stop:Int) :
 Calls Tryz.prog 32 #[q,.slice wo l.length ca,.int .i64 stop] w fun e w'=>e=.returned (.bool true)∧AN w w':=by
 obtain⟨b,v,out,rfl,hbb,hrow,htold,hout,hvb,hxb⟩:=hs;rw[hE] at hout;have holen:out.length=l.length:=by have:=congrArg List.length hout;simpa using this
 have hat:∀(k:Nat) (y:Pr),out[k]?=some y→∃z:Pr,l[k]?=some z∧z.key=y.key∧z.val=y.val:=fun k y hy=>by
  have e:(out.map Pr.ent)[k]?=(l.map Pr.ent)[k]?:=by rw[hout]
  rw[List.getElem?_map,List.getElem?_map,hy] at e;cases hz:l[k]? with
  | none=>rw[hz] at e;cases e
  | some z =>
   rw[hz] at e;simp[Pr.ent] at e;exact⟨z,rfl,e.1.symm,e.2.symm⟩
 have hvo:∀x∈out,x.val.length≤1024:=fun x hx=>by
  obtain⟨k,hk⟩:=List.getElem?_of_mem hx;obtain⟨z,hz,_,hzv⟩:=hat k x hk;rw[←hzv];exact hv z (List.mem_of_getElem? hz)
 have HSEQ:=Lib.hid (U9 3 (by omega) b base v out w hrow (htold.VS (Nat.le_refl _)) (by omega) hvo);have HAT:=Lib.hid hat;have HP:=Lib.hid hp;obtain⟨n,hn⟩:∃n,n=l.length:=⟨_,rfl⟩
 have HN:=(hIq hn holen)
 rw[←hn] at hl ⊢;have hq:∀(w:World) (c:Value),(Go.binOp BinOp.eql 66 (Value.func (Fn.func 171) #[] #[c]) Value.nilFunc).run Tryz.prog w=Result.ok (Value.bool false) w:=fun w c=>by kernel_rfl
 obtain⟨Z,hZ⟩:∃Z,Z=AS (List.replicate 32 0):=⟨_,rfl⟩
 have hzh:=Ft;rw[←hZ] at hzh;have hZs:Z.size=32:=by rw[hZ];rfl
 have HZ:=(hIq hzh hZs)
 obtain⟨wv,hwv⟩:∃wv:Value,wv=.slice wo n ca:=⟨_,rfl⟩
 clear hrow htold hout hvb hxb hat hp hn holen hvo hZ hzh hZs hbb hE hv;refine(callsIn_wide (n:=4)).1 ?_;refine callsIn_of_wp_marks Tryz.func32 rfl trivial ?_ rfl;simp only[Tryz.ntmps32,List.size_toArray,List.length_cons,List.length_nil,Nat.reduceAdd,Nat.reduceSub,Array.replicate_succ,Array.replicate_zero,List.push_toArray,List.append_toArray,List.nil_append,List.cons_append]
 gi_wp2_with fail
 obtain⟨w6,hw6⟩:∃w6,w6=(((w.alloc (.cells #[.slice wo n ca] 56)).alloc (.cells #[.int .i64 stop] 3)).alloc (.cells #[.bool false] 4)).alloc (.cells #[.int .i64 0] 3):=⟨_,rfl⟩
 rw[←hw6]
 have h6:GoI w (.slice wo n ca) stop 0 w6:=by
  rw[hw6];refine⟨((((Ch.refl _ _).alloc _).alloc _).alloc _).alloc _,AQ (AQ (AQ (heap_alloc_new _ _) _) _) _,AQ (AQ ?_ _) _,AQ ?_ _,?_⟩
  · have:=heap_alloc_new (w.alloc (.cells #[.slice wo n ca] 56)) (.cells #[.int .i64 stop] 3)
    simpa using this
  · have:=heap_alloc_new ((w.alloc (.cells #[.slice wo n ca] 56)).alloc (.cells #[.int .i64 stop] 3)) (.cells #[.bool false] 4)
    simpa using this
  have:=heap_alloc_new (((w.alloc (.cells #[.slice wo n ca] 56)).alloc (.cells #[.int .i64 stop] 3)).alloc (.cells #[.bool false] 4)) (.cells #[.int .i64 0] 3);simpa using this
 have hs6:w6.heap.size=w.heap.size+4:=by rw[hw6];simp
 have H6:=(hIq h6 hs6)
 clear hw6 h6 hs6 hq hwv wv
 refine N7 (α:=Pr) rfl (by omega) (gf:=171) rfl trivial (enters_of Tryz.func171 (by kernel_rfl) rfl) HSEQ.out belowK_t (belowK_b (by have:=H6.out.2;omega)) (H6.out.1.adds.below (Nat.le_refl _) (fun _=>fEq)) (fun _=>rfl)
  (fun pre W=>GoI w (.slice wo n ca) stop pre.length W) (fun c pre W=>GoX w c W)
  (by rw[H6.out.2];exact GoI.own _ _ _) (fun c=>by rw[H6.out.2];exact GoX.own _ c) H6.out.1
  (fun pre x a W=>∃p,GoB w (.func (.func 171) #[] #[.pointer (some ⟨b,0,none⟩)]) (.slice wo n ca) stop out pre x a p W)
  (fun pre x a W l o o' h hl hW ho=>h.imp fun p h=>h.put (by rw[←H6.out.2];exact hl) hW ho) ?assign ?body ?done ?stop
 case assign =>
  intro l0 pre x W hI hY hlt;obtain⟨K,hK⟩:∃K,K=AS x.key:=⟨_,rfl⟩
  have hKs:K.size=32:=by obtain⟨y,_,_,h,_⟩:=hY;rw[hK,AU,h]
  have HK:=(hIq hKs (by rw[hK];exact BO _:∀v∈K.toList,v.oneCell'=true))
  have hfin:KeepsOthers W ((W.alloc (.cells Z 47)).setRow W.heap.size K)∧Below w.heap.size W ((W.alloc (.cells Z 47)).setRow W.heap.size K)∧GoI w (.slice wo n ca) stop pre.length ((W.alloc (.cells Z 47)).setRow W.heap.size K)∧Yv w.heap.size out pre x ((W.alloc (.cells Z 47)).setRow W.heap.size K)∧((W.alloc (.cells Z 47)).setRow W.heap.size K).heap[W.heap.size]?=some (.cells K 47 (0,0))∧w.heap.size+4≤W.heap.size:=by
   have a:AN W ((W.alloc (.cells Z 47)).setRow W.heap.size K):=((Ch.refl _ _).alloc _).setRow (.inr (Nat.le_refl _)) _;exact⟨NJ a (fun _=>fEq),a.below hI.adds.size (fun _=>fEq),hI.Ae a (fun _=>fEq),hY.Ae a,AK (heap_alloc_new _ _) _,by have:=Ad hI.cnt;omega⟩
  have HF:=Lib.hid hfin;have HKK:=Lib.hid hK;dsimp only;rw[←hK];clear hfin hI hY hK hKs;rw[T6];simp only[List.setIfInBounds_toArray,List.set_cons_succ,List.set_cons_zero]
  gi_wp2_with (first
   | fail
   | ((with_reducible show wpListIn _ _ _ _ _ (⟨_,.alloc 47,_,_,_,_⟩::_) _ _);refine Et rfl 47 rfl (.agg Z) HZ.out.1 ?_;dsimp only[Value.cells];try simp only[World.size_alloc])
   | ((with_reducible show wpListIn _ _ _ _ _ (⟨_,.store 47 _ _,_,_,_,_⟩::_) _ _);go_must (refine EJ rfl 47 _ _ rfl W.heap.size 0 K rfl rfl (heap_alloc_new _ _) (by rw[Ab,HK.out.1]) (by rw[HK.out.1,HZ.out.2];omega) HK.out.2 K (by rw[AT _ _ (by rw[Array.length_toList,Array.length_toList,HK.out.1,HZ.out.2])]) ?_)))
  exact⟨HF.out.1,HF.out.2.1,W.heap.size,⟨by rw[←HKK.out];rfl,HF.out.2.2.1,HF.out.2.2.2.1,by rw[←HKK.out];exact HF.out.2.2.2.2.1,HF.out.2.2.2.2.2⟩⟩
 case body =>
  rintro l0 pre x a W ⟨p,ha,hI,hY,hbox,hfar⟩ hlt;subst ha;obtain⟨y,hy,hxe,hk32,hv1,hbr⟩:=hY;obtain⟨z,hz,hzk,hzv⟩:=HAT.out _ y hy;obtain⟨hxk,hxv⟩:x.key=y.key∧x.val=y.val:=by simpa[Pr.ent] using hxe
  obtain⟨k,hk⟩:∃k,k=pre.length:=⟨_,rfl⟩
  rw[←hk] at hy hz hlt hI;have hpw:=HP.out.Ae hI.adds (fun _=>fEq);have gz:=hpw.1 z (List.mem_of_getElem? hz);obtain⟨ga,oa,rfl,cA,tA,fA,a1,a2,a3⟩:=hpw.2 k z hz;rw[Pr.size gz.key] at a2 a3;obtain⟨ax,av⟩:=CG gz.key a3;rw[hzk, ←hxk] at ax;have c1:=AH (AM a1) av;have hsb:=FY (hbr.bytes.Ae ((Ch.refl (fun _=>False) _).drew) (fun _ _ h=>h)) (gz.val.Ae ((Ch.refl (fun _=>False) _).drew) (fun _ _ h=>h));rw[show decide (x.val=z.val)=true from decide_eq_true (by rw[hzv,hxv])] at hsb;have hov:=IJ (hbr.Ae ((Ch.refl (fun _=>False) W).drew) (fun _ _ h=>h));obtain⟨xo,xc,hxs,_⟩:=hbr.bytes.form;obtain⟨zo,zc,hzs,_⟩:=gz.val.form
  have hcell:∀j,(Value.slice xo x.val.length xc).ownBlock=some j→w.heap.size≤j∧j≠w.heap.size∧j≠w.heap.size+1∧j≠w.heap.size+2∧j≠w.heap.size+3:=fun j hj=>by
   rw[←hxs] at hj;refine⟨(hbr.lt j hj).1,fun e=>?_,fun e=>?_,fun e=>?_,fun e=>?_⟩
   · exact hbr.other hI.want (by decide) (by rw[hj,e])
   · exact hbr.other hI.stop (by decide) (by rw[hj,e])
   · exact hbr.other hI.ans (by decide) (by rw[hj,e])
   exact hbr.other hI.cnt (by decide) (by rw[hj,e])
  have hcl:=hbr.cells;rw[hxs] at hsb hov hcl;rw[hzs] at hsb c1;rw[hxs];obtain⟨K,hK⟩:∃K,K=AS x.key:=⟨_,rfl⟩
  have hKs:K.size=32:=by rw[hK,AU,hk32]
  have hqk:=Hy 47 Tryz.underlying47 x.key x.key hk32 hk32;rw[←hK] at hqk ax hbox ⊢;simp only[decide_true,Bool.not_true] at hqk;have cw:=AH (AM hI.want) (i:=0) rfl;have cs:=AH (AM hI.stop) (i:=0) rfl;have cn:=AH (AM hI.cnt) (i:=0) rfl;have hkn:(k:Int)<(n:Int):=by have:=HN.out;omega
  have hkn':k<n:=by have:=HN.out;omega
  have hk0:(0:Int)≤(k:Int):=by omega
  have hk65:(k:Int)≤65536:=by omega
  have HA:=(hIq a1 (aIq a2 ax))
  have HB:=(hIq hbox hKs)
  have HSB:=Lib.hid hsb;have HOV:=(hIq hov (aIq hcell hcl))
  have HI:=(hIq hI hk)
  clear hy hxe hk32 hv1 hbr hz hzk hzv hxk hxv hpw gz a1 a2 a3 ax av hsb hov hcell hcl hxs hzs hK hKs hbox hI hk hfar hlt;unfold Pg
  gi_wp2_with fail
  refine Iu (fun w0=>w0=W.drew) [(0,false),(1,false),(2,false),(3,false),(4,false),(5,false),(6,false),(7,false),(8,false),(9,false),(10,false),(11,false),(12,false),(13,false),(14,false),(15,false),(16,false),(17,false),(18,false),(19,false),(20,true),(21,false),(22,false)] (by kernel_rfl) (by kernel_rfl) (fun _ _ _ _ h=>h) ?_ ?_
  · rfl
  iterate 3 (refine planI_look rfl rfl (fun _=>rfl) (fun w0 hS=>(by subst hS;go_simp;try rfl)) ?_;simp only[Act.put,nAq,nBq,nCq])
  (refine planI_look (v:=.bool false) rfl rfl (fun _=>rfl) (fun w0 hS=>(by subst hS;go_simp;try rfl)) ?_;simp only[Act.put,nAq,nBq,nCq])
  (refine planI_look (v:=.bool false) rfl rfl (fun _=>rfl) (fun w0 hS=>(by subst hS;go_simp;try rfl)) ?_;simp only[Act.put,nAq,nBq,nCq])
  refine Fp (cur:=K) (t:=47) (fr:=(0,0)) rfl rfl 47 _ rfl p 0 32 rfl (fun w0 hS=>by subst hS;exact AM HB.out.1) Tryz.underlying47 rfl Ab (by rw[HB.out.2];omega) K (by have:=HB.out.2;simp[←this]) ?_;simp only[Act.put,nAq,nBq,nCq]
  iterate 4 (refine planI_look rfl rfl (fun _=>rfl) (fun w0 hS=>(by subst hS;go_simp;try rfl)) ?_;simp only[Act.put,nAq,nBq,nCq])
  refine Fp (cur:=cA) (t:=tA) (fr:=fA) rfl rfl 47 _ rfl ga (oa+k*33) 32 rfl (fun w0 hS=>by subst hS;exact AM HA.out.1) Tryz.underlying47 rfl Ab (by have:=HA.out.2.1;omega) K HA.out.2.2 ?_;simp only[Act.put,nAq,nBq,nCq]
  (refine planI_look (v:=.bool false) rfl rfl (fun _=>rfl) (fun w0 hS=>(by subst hS;go_simp;try rfl)) ?_;simp only[Act.put,nAq,nBq,nCq])
  (refine planI_look (v:=.bool false) rfl rfl (fun _=>rfl) (fun w0 hS=>(by subst hS;go_simp;try rfl)) ?_;simp only[Act.put,nAq,nBq,nCq])
  (refine planI_look (v:=.bool false) rfl rfl (fun _=>rfl) (fun w0 hS=>(by subst hS;go_simp;try rfl)) ?_;simp only[Act.put,nAq,nBq,nCq])
  iterate 5 (refine planI_look rfl rfl (fun _=>rfl) (fun w0 hS=>(by subst hS;go_simp;try rfl)) ?_;simp only[Act.put,nAq,nBq,nCq])
  (refine planI_look (v:=.slice zo z.val.length zc) rfl rfl (fun _=>rfl) (fun w0 hS=>(by subst hS;go_simp;try rfl)) ?_;simp only[Act.put,nAq,nBq,nCq])
  refine Ru rfl ?_
  gi_wp2_with fail
  refine⟨trivial,(callsIn_wide.2 HSB.out).mono ?_⟩;rintro e w3 ⟨rfl,rfl⟩;dsimp only
  gi_step
  refine wpListIn_nil ?_;change _∧_;refine⟨rfl,?_⟩
  (refine planI_look (v:=.bool false) rfl rfl (fun _=>rfl) (fun w0 hS=>(by subst hS;go_simp;try rfl)) ?_;simp only[Act.put,nAq,nBq,nCq])
  (refine planI_look (v:=.bool false) rfl rfl (fun _=>rfl) (fun w0 hS=>(by subst hS;go_simp;try rfl)) ?_;simp only[Act.put,nAq,nBq,nCq])
  show _
  unfold Ct
  gi_wp2_with fail
  refine⟨trivial,(callsIn_wide.2 HOV.out.1).mono ?_⟩;rintro e w4 ⟨⟨u,rfl⟩,c4⟩;have hch:Ch (fun j=>(Value.slice xo x.val.length xc).ownBlock=some j) W w4:=(Ch.refl _ W).drew.trans c4 (fun j hj=>.inl hj);have hI4:=HI.out.1.Ae hch HOV.out.2.1;have hk4:KeepsOthers W w4:=NJ hch HOV.out.2.2;have hb4:Below w.heap.size W w4:=hch.below HI.out.1.adds.size (fun j hj=>(HOV.out.2.1 j hj).1);have cn4:=AH hI4.cnt (i:=0) rfl;have fn4:=Ai hI4.cnt 0;have cs4:=AH hI4.stop (i:=0) rfl;have fb4:=Ai hI4.ans 0;have cb4:=AH hI4.ans (i:=0) rfl;have rs4:=AV hI4.cnt 0 (.int .i64 ((k:Int)+1));have I4:=(hIq hI4 (aIq hk4 (aIq hb4 rs4)))
  clear hch hI4 hk4 hb4 rs4 c4 c1 cw cs cn;by_cases hst:((k:Int)+1)=stop
  · gi_wp2_with fail
    refine⟨I4.out.2.1.trans ((KeepsOthers.setCell _ _ _).trans (KeepsOthers.setCell _ _ _)),rfl,(I4.out.1.adds.setCell (p:=⟨w.heap.size+3,0,none⟩) (.inr (by simp)) _).setCell (p:=⟨w.heap.size+2,0,none⟩) (.inr (by simp)) _,?_⟩;exact AV (Ak (p:=⟨w.heap.size+3,0,none⟩) I4.out.1.ans (by simp) _) 0 (.bool true)
  gi_wp2_with fail
  refine⟨I4.out.2.1.trans (KeepsOthers.setCell _ _ _),I4.out.2.2.1.setCell (p:=⟨w.heap.size+3,0,none⟩) (by simp) _,I4.out.1.adds.setCell (p:=⟨w.heap.size+3,0,none⟩) (.inr (by simp)) _,Ak (p:=⟨w.heap.size+3,0,none⟩) I4.out.1.want (by simp) _,Ak (p:=⟨w.heap.size+3,0,none⟩) I4.out.1.stop (by simp) _,Ak (p:=⟨w.heap.size+3,0,none⟩) I4.out.1.ans (by simp) _,?_⟩;rw[List.length_append,List.length_singleton, ←HI.out.2,show(((k+1:Nat)):Int)=(k:Int)+1 by omega];exact I4.out.2.2.2
 case done =>
  rintro D ys W hD hys hI hK;have hyl:ys.length=n:=by have:=congrArg List.length hys;rw[List.length_map,List.length_map] at this;have:=HN.out;omega
  rw[hyl] at hI;have cw:=AH hI.want (i:=0) rfl;have cn:=AH hI.cnt (i:=0) rfl;have fb:=Ai hI.ans 0;have cb:=AH hI.ans (i:=0) rfl;have HB:=(hIq hI (aIq hK hD))
  clear hI hK hD hys hyl
  gi_wp2
  have hD2:w.heap.size+2<D:=by have:=HB.out.2.2;have:=H6.out.2;omega
  have hK':(W.setCell ⟨w.heap.size+2,0,none⟩ (.bool true)).heap[D]?=some (.deferred (some [])):=(heap_setCell_other W ⟨w.heap.size+2,0,none⟩ D (.bool true) (by simp;omega)).trans HB.out.2.1;have hc0:(W.setCell ⟨w.heap.size+2,0,none⟩ (.bool true)).cell? ⟨w.heap.size+2,0,none⟩=some (.bool true):=AH (AV HB.out.1.ans 0 (.bool true)) rfl;have hc5:=cell_kept hc0 (grownBy_putObj' _ D (.deferred none)) (fun r e=>by cases e;exact⟨_,hK',rfl⟩);refine⟨by simp,.inl ⟨_,_,rfl,run_takeDeferred hK',?_⟩⟩;refine⟨.bool true,?_,rfl,(HB.out.1.adds.setCell (p:=⟨w.heap.size+2,0,none⟩) (.inr (by simp)) _).grown (grownBy_putObj' _ D (.deferred none)) (fun k hk=>.inr (by cases hk;omega))⟩;simp[results,Tryz.f32,go_sem,hc5]
 rintro D c pre W hD hpre ⟨rfl,hA,rb⟩ hK;have HB:=(hIq hA (aIq rb (aIq hK hD)))
 clear hA rb hK hD hpre
 gi_wp2
 have hD2:w.heap.size+2<D:=by have:=HB.out.2.2.2;have:=H6.out.2;omega
 have hc0:=AH HB.out.2.1 (i:=0) rfl;have hc5:=cell_kept hc0 (grownBy_putObj' _ D (.deferred none)) (fun r e=>by cases e;exact⟨_,HB.out.2.2.1,rfl⟩);refine⟨by simp,.inl ⟨_,_,rfl,run_takeDeferred HB.out.2.2.1,?_⟩⟩;refine⟨.bool true,?_,rfl,HB.out.1.grown (grownBy_putObj' _ D (.deferred none)) (fun k hk=>.inr (by cases hk;omega))⟩;simp[results,Tryz.f32,go_sem,hc5]
end Go.Proofs.YtngbdbpofifimaaGreat.Store
namespace Go.Proofs.YtngbdbpofifimaaGreat.Law13
open Go.RowKit Go.Proofs.YtngbdbpofifimaaGreat.ShaW Go.Proofs.YtngbdbpofifimaaGreat.Path Go.Proofs.YtngbdbpofifimaaGreat.Store Go.Proofs.YtngbdbpofifimaaGreat.Bk
def Wd:Tr:=tree 256 Wh
structure Xs (w0 w:World) (s:Nat) (root:Int):Prop where
 st:∃σ:AG Nd,Store.Good σ∧Rep (sk σ) root 0 Wd∧AX σ root=0∧Ow w0 w s σ (fun _=>False)

theorem Nl:∀a b:List UInt8,a.length=b.length→(0<Lib.compareBytes a b↔Lib.compareBytes b a<0)
 | [],[],_=>by simp[Lib.compareBytes]
 | [],_::_,h=>by simp at h
 | _::_,[],h=>by simp at h
 | x::a,y::b,h=>by
  have ih:=Nl a b (by simpa using h);unfold Lib.compareBytes;by_cases h1:x<y
  · have h2:¬y<x:=by rw[UInt8.lt_iff_toNat_lt] at h1 ⊢;omega
    rw[if_pos h1,if_neg h2,if_pos h1];decide
  by_cases h2:y<x
  · rw[if_neg h1,if_pos h2,if_pos h2];decide
  rw[if_neg h1,if_neg h2,if_neg h2,if_neg h1];exact ih
theorem Mr:∀a b:List UInt8,Lib.compareBytes a b=0→a=b
 | [],[],_=>rfl
 | [],_::_,h=>by simp[Lib.compareBytes] at h
 | _::_,[],h=>by simp[Lib.compareBytes] at h
 | x::a,y::b,h=>by
  unfold Lib.compareBytes at h;by_cases h1:x<y
  · rw[if_pos h1] at h;cases h
  by_cases h2:y<x
  · rw[if_neg h1,if_pos h2] at h;cases h
  rw[if_neg h1,if_neg h2] at h;have e:x=y:=by apply UInt8.toNat_inj.1;rw[UInt8.lt_iff_toNat_lt] at h1 h2;omega
  rw[e,Mr a b h]
end Go.Proofs.YtngbdbpofifimaaGreat.Law13

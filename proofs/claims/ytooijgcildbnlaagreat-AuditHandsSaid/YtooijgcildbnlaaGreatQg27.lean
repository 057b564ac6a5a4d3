/- Laws of the layers below. -/
import Derived.Test.YtooijgcildbnlaaGreatQg26
set_option maxHeartbeats 3200000
set_option maxRecDepth 100000
set_option linter.unusedVariables false
namespace Go.Proofs.YtooijgcildbnlaaGreat
open Go.RowKit
section
variable {P : Program} {Q : Exit→Act→World→Prop} {md : Region.Mode} {S : World→Prop}
def QX (P:Program) (l:List Oper) (Q:Exit→Act→World→Prop) (f:Nat) (S:World→Prop) (n:Nat):List (Nat×Bool)→Act→World→Prop
 | [],a,w=>wpOp P l.toArray Q f (fun a' w'=>S w'∧Bg P l Q S n [] a' w') a w
 | (i,false)::r,a,w=>∃o v,l[i]?=some o∧YieldsIf P l.toArray S o v a∧QX P l Q f S n r (a.put o.dst v) w
 | (i,true)::r,a,w=>wpOp P l.toArray Q i (fun a' w'=>S w'∧QX P l Q f S n r a' w') a w∧wpOp P l.toArray Q f (fun a' w'=>S w'∧Bg P l Q S n ((i,true)::r) a' w') a w
def Pj (md:Region.Mode) (ops:Array Oper) (f n:Nat):List (Nat×Bool)→Array Bool→Bool
 | [],listed=>decide (f<n)&&decide (Region.ready md ops listed = [f])&&Hf md ops n [] (listed.setIfInBounds f true)
 | (i,false)::r,listed=>decide (i<n)&&(Region.ready md ops listed).contains i&&Region.free md ops listed i&&Pj md ops f n r (listed.setIfInBounds i true)
 | (i,true)::r,listed=>decide (i<n)&&decide (f<n)&&(decide (Region.ready md ops listed = [i,f])||decide (Region.ready md ops listed = [f,i]))&&Pj md ops f n r (listed.setIfInBounds i true)&&Hf md ops n ((i,true)::r) (listed.setIfInBounds f true)
def Xc (md:Region.Mode) (ops:Array Oper) (f n:Nat) (p:List (Nat×Bool)):Bool :=
 Region.noSelect ops&&decide (p.length+1=n)&&decide (n≤ops.size)&&Ge md ops n&&Pj md ops f n p (Array.replicate ops.size false)
theorem Fv {l:List Oper} {i:Nat} {a:Act} {w:World} {o:Oper} {K:Act→World→Prop} (ho:l[i]?=some o) (h:wpList P l.toArray (Exit.then K Q) [o] a w):wpOp P l.toArray Q i K a w:=by
 have ho':l.toArray[i]?=some o:=by simpa using ho
 unfold wpOp;simp only[ho'];unfold wpList at h;split
 · rename_i hw
   rw[if_pos hw] at h;refine h.imp (fun h=>?_) id;unfold Oper.wp at h ⊢;generalize (execOp a.eval o).run P w=r at h ⊢;cases r with
   | ok nx w' =>
    cases nx<;>simp only[Oper.upon,wpList,Exit.then] at h ⊢ <;>
     first
      | exact h
      | exact Calls.mono h (fun e w'' he=>by cases e<;>exact he)
   | halt x w'=>cases x<;>simp only[Oper.upon,Exit.then] at h ⊢ <;> exact h
 rename_i hw;rw[if_neg hw] at h;exact h
end
section
variable {P : Program} {Q : Exit→Act→World→Prop} {md : Region.Mode} {S : World→Prop} {q : List (Nat×Bool)}
def Dj (P:Program) (l:List Oper) (Q:Exit→Act→World→Prop) (f:Nat) (S:World→Prop) (n:Nat) (q:List (Nat×Bool)):List (Nat×Bool)→Act→World→Prop
 | [],a,w=>wpOp P l.toArray Q f (fun a' w'=>S w'∧Bg P l Q S n q a' w') a w
 | (i,false)::r,a,w=>∃o v,l[i]?=some o∧YieldsIf P l.toArray S o v a∧Dj P l Q f S n q r (a.put o.dst v) w
 | (i,true)::r,a,w=>wpOp P l.toArray Q i (fun a' w'=>S w'∧Dj P l Q f S n q r a' w') a w∧wpOp P l.toArray Q f (fun a' w'=>S w'∧Bg P l Q S n ((i,true)::(r++q)) a' w') a w
def Hz (md:Region.Mode) (ops:Array Oper) (f n:Nat) (q:List (Nat×Bool)):List (Nat×Bool)→Array Bool→Bool
 | [],listed=>decide (f<n)&&decide (Region.ready md ops listed = [f])&&Hf md ops n q (listed.setIfInBounds f true)
 | (i,false)::r,listed=>decide (i<n)&&(Region.ready md ops listed).contains i&&Region.free md ops listed i&&Hz md ops f n q r (listed.setIfInBounds i true)
 | (i,true)::r,listed=>decide (i<n)&&decide (f<n)&&(decide (Region.ready md ops listed = [i,f])||decide (Region.ready md ops listed = [f,i]))&&Hz md ops f n q r (listed.setIfInBounds i true)&&Hf md ops n ((i,true)::(r++q)) (listed.setIfInBounds f true)
def OQ (md:Region.Mode) (ops:Array Oper) (f n:Nat) (q p:List (Nat×Bool)):Bool :=
 Region.noSelect ops&&decide (q.length+1+p.length=n)&&decide (n≤ops.size)&&Ge md ops n&&Hz md ops f n q p (Array.replicate ops.size false)
theorem EY {l:List Oper} {f n:Nat} (hsel:Region.noSelect l.toArray=true) (ht:Ge md l.toArray n=true) (hQ:∀c a a' w,Q (.panic c) a' w→Q (.panic c) a w) :
 ∀(p:List (Nat×Bool)) (listed:Array Bool) (a:Act) (w:World),Hz md l.toArray f n q p listed=true→HeadInv md l.toArray n listed→S w→Dj P l Q f S n q p a w →
 wpHead P md l.toArray Q S n (fun listed a w=>Region.seqB md l.toArray (l.toArray.size-n) n listed=true∧wpList P l.toArray Q (l.drop n) a w) (q.length+1+p.length) listed a w
 | [],listed,a,w,hB,inv,hS,h=>by
  simp only[Hz,Bool.and_eq_true,decide_eq_true_eq] at hB;obtain⟨⟨hfn,hr⟩,hB'⟩:=hB;refine⟨by rw[hr];simp,fun j hj=>?_⟩;have hjf:j=f:=by rw[hr] at hj;simpa using hj
  subst hjf;exact⟨hfn,wpOp_mono (fun a' w' h'=>⟨h'.1,C7 hsel ht hQ q _ a' w' hB' (inv.set hj hfn) h'.1 h'.2⟩) h⟩
 | (i,false)::r,listed,a,w,hB,inv,hS,h=>by
  simp only[Hz,Bool.and_eq_true,decide_eq_true_eq] at hB;obtain⟨⟨⟨hin,hr⟩,hf⟩,hB'⟩:=hB;obtain⟨o,v,ho,hy,h'⟩:=h;have hr':i∈Region.ready md l.toArray listed:=by simpa using hr
  have ho':l.toArray[i]?=some o:=by simpa using ho
  exact Ic ho' (Region.noSelect_spec hsel) (fun c a w=>hQ c _ _ w) ht hin (fun listed a w hL=>seqB_ready hL.1) (q.length+1+r.length) listed a w inv (Region.free_spec ho' hf) hr' hy hS
   (EY hsel ht hQ r _ _ w hB' (inv.set hr' hin) hS h')
 | (i,true)::r,listed,a,w,hB,inv,hS,h=>by
  simp only[Hz,Bool.and_eq_true,decide_eq_true_eq,Bool.or_eq_true] at hB;obtain⟨⟨⟨⟨hin,hfn⟩,hr⟩,hB1⟩,hB2⟩:=hB
  have hmem:∀j,j∈Region.ready md l.toArray listed↔j=i∨j=f:=fun j=>by
   rcases hr with hr|hr
   · rw[hr];simp
   rw[hr];simp[or_comm]
  refine⟨fun h0=>?_,fun j hj=>?_⟩
  · have:=(hmem i).2 (.inl rfl)
    rw[h0] at this;cases this
  rcases (hmem j).1 hj with e|e
  · subst e
    exact⟨hin,wpOp_mono (fun a' w' h'=>⟨h'.1,EY hsel ht hQ r _ a' w' hB1 (inv.set hj hin) h'.1 h'.2⟩) h.1⟩
  subst e;have hlen:q.length+1+r.length=((i,true)::(r++q)).length:=by simp;omega
  refine⟨hfn,wpOp_mono (fun a' w' h'=>⟨h'.1,?_⟩) h.2⟩
  show wpHead P md l.toArray Q S n _ (q.length+1+r.length) _ _ _
  rw[hlen];exact C7 hsel ht hQ ((i,true)::(r++q)) _ a' w' hB2 (inv.set hj hfn) h'.1 h'.2
theorem Jl {id:Nat} {a:Act} {w:World} {l:List Oper} (f:Nat) (S:World→Prop) (n:Nat) (p q:List (Nat×Bool)) (hm:P.follows .mixedOrders=true)
 (hB:OQ .any l.toArray f n q p=true) (hS:S w.drew) (h:Dj P l (NoPanic Q) f S n q p a w.drew):(Code.region id l.toArray true).wp P Q a w:=by
 refine wp_region_noPanic ?_;have hQ:∀c a a' w,NoPanic Q (.panic c) a' w→NoPanic Q (.panic c) a w:=fun _ _ _ _ h=>h.elim
 simp only[OQ,Bool.and_eq_true,decide_eq_true_eq] at hB;obtain⟨⟨⟨⟨hsel,hlen⟩,hn⟩,ht⟩,hp⟩:=hB
 have inv0:HeadInv .any l.toArray n (Array.replicate l.toArray.size false) :=
  ⟨by simp,fun j oj _ hl=>(by rw[getD_replicate_false] at hl;cases hl),fun t _ ht=>getD_in (by simpa using ht) (getD_replicate_false _ _)⟩
 have H:=EY (md:=.any) hsel ht hQ p _ a _ hp inv0 hS h;refine wp_region_any hm ?_
 have:=EX (g:=l.toArray.size-n) (fun listed a' w' hL=>by
  have hdl:(l.drop n).length=l.toArray.size-n:=by simp
  have:=wpAny_of_seq (md:=.any) (Q':=NoPanic Q) (l.drop n) n listed a' w' (fun j=>by simp[List.getElem?_drop]) (by rw[hdl];exact hL.1) hL.2
  rwa [hdl] at this) _ _ _ _ H
 rw[hlen,show n+(l.toArray.size-n)=l.toArray.size by omega] at this;exact this
theorem planG_look {l:List Oper} {f n i:Nat} {r:List (Nat×Bool)} {a:Act} {w:World} {o:Oper} {v:Value} (ho:l[i]?=some o) (hw:Region.wanted o (yielded l.toArray a.tmps)=true)
 (hy:∀w0,S w0→(execOp a.eval o).run P w0=.ok (.value v) w0) (h:Dj P l Q f S n q r (a.put o.dst v) w):Dj P l Q f S n q ((i,false)::r) a w :=
 ⟨o,v,ho,.inl ⟨hw,hy⟩,h⟩
theorem OX {l:List Oper} {f n i:Nat} {r:List (Nat×Bool)} {a:Act} {w:World} {o of:Oper} (ho:l[i]?=some o) (hof:l[f]?=some of)
 (h:wpList P l.toArray (Exit.then (fun a' w'=>S w'∧Dj P l Q f S n q r a' w') Q) [o] a w) (h2:wpList P l.toArray (Exit.then (fun a' w'=>S w'∧Bg P l Q S n ((i,true)::(r++q)) a' w') Q) [of] a w):Dj P l Q f S n q ((i,true)::r) a w :=
 ⟨Fv ho h,Fv hof h2⟩
theorem QA {l:List Oper} {f n:Nat} {a:Act} {w:World} {of:Oper} (hof:l[f]?=some of)
 (h2:wpList P l.toArray (Exit.then (fun a' w'=>S w'∧Bg P l Q S n q a' w') Q) [of] a w):Dj P l Q f S n q [] a w:=Fv hof h2
end
end Go.Proofs.YtooijgcildbnlaaGreat
namespace Go.Proofs.YtooijgcildbnlaaGreat.Store
open Go.RowKit Go.Proofs.YtooijgcildbnlaaGreat.ShaW Go.Proofs.YtooijgcildbnlaaGreat.Path
section
variable {w0 w : World} {b : Nat} {σ : AD Nd} {G : Nat→Prop} {ao lo : Option Addr} {R L : List Int}
theorem ROw.XG (h:ROw w0 w b σ G) (GG:Good σ) (n:Int):Calls Tryz.prog 98 #[.pointer (some ⟨b,0,none⟩),.int .i64 n] w fun e w'=>e=.returned (.int .i64 (σ.count n:Nat))∧Adds w w':=by
 obtain⟨ρ,F,h1,L,_⟩:=h;exact(I1 h1 n).mono fun e w' ⟨he,a⟩=>⟨by rw[he,L.count GG],a⟩
theorem ND (h:ROw w0 w b σ G) (GG:Good σ) (cap:Nat) (hR:Az w ao R) (hc:chk σ R=0) :
 Calls Tryz.prog 27 #[.pointer (some ⟨b,0,none⟩),.slice ao R.length cap] w fun e w'=>∃v k,e=.returned (.tuple #[v,.int .i64 0])∧Wanting σ R k.todo.length k∧w'.ownsRow w.heap.size 181 3 v (IL σ k.cnt).length (fdL (IL σ k.cnt))∧Adds w w':=by
 have hk:=He h GG cap hR hc;obtain⟨hl64,_⟩:=FO hc;obtain⟨n,hn⟩:∃n,n=R.length:=⟨_,rfl⟩
 rw[←hn] at hk hl64 ⊢;have hhs:(Ac σ).length≤65536:=Ew GG;have hhd:=fun w1 (a:Adds w w1)=>(h.adds a).Ac GG
 have hct:=fun w1 (a:Adds w w1) x=>(h.adds a).XG GG x
 obtain⟨L,hL⟩:∃L,L=(Ac σ).length:=⟨_,rfl⟩
 rw[←hL] at hhs hhd;obtain⟨i0,z0,p1,p2,p3,p4,p5⟩:=WY;have HI:=(hIq p1 (aIq p2 (aIq p3 (aIq p4 p5))))
 have HK:=(hIq hk (aIq hhd (aIq h (aIq GG (aIq hR (aIq hn (aIq hL hct)))))))
 clear hk hhd hR hn h GG hc hL hct p1 p2 p3 p4 p5;go_enter Tryz.func27,Tryz.ntmps27;go_wp2_with fail;refine HK.out.1.mono ?_;rintro e w1 ⟨v,k,rfl,hW,hM⟩;obtain⟨⟨q,qc,rfl,own⟩,hA⟩:=hM;have hI:=(Az.own own).1;have hrl:=Hm k.todo (Ac σ);have hfs:=PT hW;obtain⟨S,hS⟩:∃S,S=Bx k.todo (Ac σ):=⟨_,rfl⟩
 rw[←hS] at hI hrl hfs ⊢;obtain⟨sl,hsl⟩:∃sl,sl=S.length:=⟨_,rfl⟩
 have hsl6:sl≤65536:=by have:=HK.out.2.2.2.2.2.2.1;omega
 rw[←hsl] at ⊢;have hwt:=fun w2 (a:Adds w1 w2) x=>OP (HK.out.2.2.1.adds (hA.trans a (fun _=>fEq))) HK.out.2.2.2.1 qc cap (hI.adds a) hsl.symm hsl6 (HK.out.2.2.2.2.1.adds (hA.trans a (fun _=>fEq))) HK.out.2.2.2.2.2.1.symm hl64 x
 have H1:=(hIq hA (aIq hwt (aIq hW hfs)))
 have HHD:=Lib.hid (HK.out.2.1 _ hA);clear own hI hA hrl hS hsl hW hwt hfs;go_wp2_with fail;refine HHD.out.mono ?_;rintro e w3 ⟨v3,rfl,o3,a3⟩;obtain⟨vo,vc,rfl⟩:=Ar o3
 have hi3:Az w3 vo ((Ac σ).map fun n:Nat=>(n:Int)):=by
  have:ints (Ac σ)=Ci ((Ac σ).map fun n:Nat=>(n:Int)):=by simp[ints,Ci,List.map_map]
  rw[this] at o3;exact(Az.own o3).1
 have H3:=(hIq hi3 (aIq a3 (H1.out.1.trans a3 (fun _=>fEq))))
 clear hi3 o3 a3 HHD;go_wp2;go_loopg [8,10,11] L (fun g s8 s10 s11 wr=>∃(i len:Nat) (qo:Option Addr) (qc:Nat),s10=.int .i64 i∧i+g=L∧s8=.slice qo len qc∧len=(DV σ (Dv σ S R) ((Ac σ).take i)).length∧wr.ownsRow w3.heap.size 181 3 (.slice qo len qc) len (fdL (DV σ (Dv σ S R) ((Ac σ).take i)))∧Adds w3 wr)
 case atStart=>exact⟨0,0,none,0,rfl,by omega,rfl,rfl,World.ownsRow_nil _ _ _ _,Ch.refl _ _⟩
 obtain⟨i,len,qo,qc',rfl,hi,rfl,hlen,hown,hA⟩:=hrel
 have hle:len≤65536:=by
  have h1:=IE σ (Dv σ S R) ((Ac σ).take i);rw[List.length_take] at h1;have:=HK.out.2.2.2.2.2.2.1;omega
 have HA:=(hIq hA (aIq hown hlen))
 clear hA hown hlen;by_cases hin:i=L
 · subst hin
   have hlt:¬(i:Int)<(i:Int):=by omega
   clear hi;go_wp2;go_ret2;refine⟨_,rfl,k,H1.out.2.2.1,?_,H3.out.2.2.trans HA.out.1 (fun _=>fEq)⟩;have h9:(Ac σ).take i=Ac σ:=List.take_of_length_le (Nat.le_of_eq HK.out.2.2.2.2.2.2.1.symm);have h1:=HA.out.2.1;have h2:=HA.out.2.2;rw[h9, ←H1.out.2.2.2] at h1 h2;rw[←h2];exact h1.base (fun j hj=>Nat.le_trans H3.out.2.2.size (h1.lt j hj).1)
 have hi1:(i:Int)<(L:Int):=by omega
 have hi2:i<L:=by omega
 obtain⟨g,rfl⟩:∃g,gk=g+1:=⟨gk-1,by omega⟩
 obtain⟨x,hx⟩:∃x,(Ac σ)[i]?=some x:=⟨_,List.getElem?_eq_getElem (by have:=HK.out.2.2.2.2.2.2.1;omega)⟩
 obtain⟨g1,o1,rfl,q1⟩:=H3.out.1 i (x:Int) (by rw[List.getElem?_map,hx];rfl);have q1':=HA.out.1.cell q1 id;obtain⟨c,hc⟩:∃c:Int,c=((σ.count (x:Int):Nat):Int):=⟨_,rfl⟩
 obtain⟨f,hf⟩:∃f:Int,f=((Dv σ S R (x:Int):Nat):Int):=⟨_,rfl⟩
 have hA1:Adds w1 wr:=H3.out.2.1.trans HA.out.1 (fun _=>fEq);have hwt:=H1.out.2.1 wr hA1 (x:Int);have hct:=fun w4 (a:Adds wr w4)=>HK.out.2.2.2.2.2.2.2 w4 ((H3.out.2.2.trans HA.out.1 (fun _=>fEq)).trans a (fun _=>fEq)) (x:Int)
 rw[←hc] at hct;rw[←hf] at hwt;have hsn:(Ac σ).take (i+1)=(Ac σ).take i ++ [x]:=by rw[List.take_add_one,hx];rfl
 have hst:=EK σ (Dv σ S R) ((Ac σ).take i) x;rw[←hc, ←hf, ←hsn] at hst;have HST:=Lib.hid hst;have HWT:=Lib.hid hwt;have HCT:=Lib.hid hct;have HQ1:RowKit.Hid (∀w4,Adds wr w4→w4.cell? ⟨g1,o1+i,none⟩=some (.int .i64 (x:Int))):=Lib.hid (fun w4 a=>a.cell q1' id);have HQ3:RowKit.Hid (∀w4,Adds w3 w4→w4.cell? ⟨g1,o1+i,none⟩=some (.int .i64 (x:Int))):=Lib.hid (fun w4 a=>a.cell q1 id);clear hx q1 hct hwt hc hf hsn hst hA1;by_cases hcf:c=f
 · have hcb:(f != c)=false:=by simp[hcf]
   have HE:=HST.out;rw[if_pos hcf,List.append_nil] at HE;have HE:=Lib.hid HE;clear hcf;go_wp2_with fail;refine HWT.out.mono ?_;rintro e w4 ⟨rfl,a4⟩;have q4:=HQ1.out _ a4;have HC4:=Lib.hid (HCT.out _ a4);have A4:=Lib.hid a4;clear a4 q1';go_wp2_with fail;refine HC4.out.mono ?_;rintro e w5 ⟨rfl,a5⟩;have A5:=Lib.hid (A4.out.trans a5 (fun _=>fEq));clear a5 q4;go_wp2;go_roundg g
   case measure=>omega
   exact⟨i+1,len,qo,qc',by simp,by omega,rfl,by rw[HE.out];exact HA.out.2.2,by rw[HE.out];exact A5.out.owns HA.out.2.1 (fun _ _ h=>h),HA.out.1.trans A5.out (fun _=>fEq)⟩
 have hcb:(f != c)=true:=by simp;exact fun e=>hcf e.symm
 have HE:=HST.out;rw[if_neg hcf] at HE;have HE:=Lib.hid HE;clear hcf;go_wp2_with fail;refine HWT.out.mono ?_;rintro e w4 ⟨rfl,a4⟩;have q4:=HQ1.out _ a4;have HC4:=Lib.hid (HCT.out _ a4);have A4:=Lib.hid a4;clear a4 q1';go_wp2_with fail;refine HC4.out.mono ?_;rintro e w5 ⟨rfl,a5⟩;have A5:=Lib.hid (A4.out.trans a5 (fun _=>fEq));have H35:=Lib.hid (show Adds w3 w5 from HA.out.1.trans A5.out (fun _=>fEq));have HC5:=Lib.hid (HCT.out _ (A5.out.trans (Ch.refl (fun _=>False) w5).drew (fun _=>fEq)));clear a5 q4;go_wp2;refine AS (fun wz=>Adds w3 wz) 16 [(0,false),(1,false),(2,false),(3,false),(4,false),(5,false),(6,false),(7,false),(8,false),(9,false),(10,false),(11,true),(12,false),(13,true),(14,true),(15,false)] (by kernel_rfl) (by kernel_rfl) ?_ ?_
 · exact H35.out.drew
 iterate 4
  refine plan_look rfl rfl (fun w0 hS=>(by clear hS;go_simp;try rfl)) ?_;simp only[Act.put,nAq,nBq,nCq]
 refine plan_look (v:=.int .i64 (x:Int)) rfl rfl (fun w0 hS=>(by have c1:=HQ3.out w0 hS;clear hS;go_simp;try rfl)) ?_;simp only[Act.put,nAq,nBq,nCq]
 iterate 5
  refine plan_look rfl rfl (fun w0 hS=>(by clear hS;go_simp;try rfl)) ?_;simp only[Act.put,nAq,nBq,nCq]
 refine plan_look (v:=.int .i64 (x:Int)) rfl rfl (fun w0 hS=>(by have c1:=HQ3.out w0 hS;clear hS;go_simp;try rfl)) ?_;simp only[Act.put,nAq,nBq,nCq];refine Ah rfl ?_;go_wp2_with fail;refine HC5.out.mono ?_;rintro e w6 ⟨rfl,a6⟩;have H6:=Lib.hid (show Adds w5 w6 from(Ch.refl (fun _=>False) w5).drew.trans a6 (fun _=>fEq));clear a6;dsimp only;go_step;refine wpList_nil ?_;change _∧_;refine⟨H35.out.trans H6.out (fun _=>fEq),?_⟩;refine plan_look (v:=.agg #[.int .i64 (x:Int),.int .i64 f,.int .i64 c]) rfl rfl (fun w0 hS=>(by clear hS;go_simp;try rfl)) ?_;simp only[Act.put,nAq,nBq,nCq];refine Ah rfl ?_
 go_wp2_with (first
  | fail
  | ((with_reducible show zOq (.buildSlice 61 _ _));refine Be rfl 61 _ rfl 181 i0 z0 (.agg #[.int .i64 (x:Int),.int .i64 f,.int .i64 c]) rfl Tryz.underlying61 HI.out.1 HI.out.2.1 (by rw[HI.out.2.2.1];decide) (by rw[HI.out.2.2.1];decide) (by rw[HI.out.2.2.1];rfl) ?_))
 have hA6:Adds w3 w6:=H35.out.trans H6.out (fun _=>fEq);refine⟨hA6.alloc _,?_⟩;have HOW:=Lib.hid ((A5.out.trans H6.out (fun _=>fEq)).owns HA.out.2.1 (fun _ _ h=>h));have HA6:=Lib.hid hA6;clear hA6;refine Ah rfl ?_
 go_wp2_with (first
  | fail
  | (at_builtin;refine wpList_append_own _ rfl _ _ 61 rfl w3.heap.size 181 i0 z0 3 24 Tryz.underlying61 HI.out.1 HI.out.2.1 HI.out.2.2.1 HI.out.2.2.2.1 HI.out.2.2.2.2 (by decide) (.slice qo len qc') len (fdL (DV σ (Dv σ S R) ((Ac σ).take i))) rfl (((Ch.refl (fun _=>False) w6).alloc _).owns HOW.out (fun _ _ h=>h)) ⟨w6.heap.size,0,none⟩ 1 1 [.int .i64 (x:Int),.int .i64 f,.int .i64 c] rfl rfl (Dn (cs:=#[.int .i64 (x:Int),.int .i64 f,.int .i64 c]) (t:=181) (fr:=(0,0)) (heap_alloc_new _ _)) (by simp[Value.oneCell']) (by unfold maxLen;omega) (by omega) (by have:=HA6.out.size;simp;omega) ?_;intro v' w8 own' grow' nil'))
 obtain⟨ro,rc,rfl⟩:=Ar own';have hA8:Adds w3 w8:=(HA6.out.alloc _).grown grow' (fun k hk=>.inr (HOW.out.lt k hk).1);have H8:=(hIq own' hA8)
 clear own' grow' nil' hA8;refine⟨H8.out.2,?_⟩;refine plan_look rfl rfl (fun w0 hS=>(by clear hS;go_simp;try rfl)) ?_;simp only[Act.put,nAq,nBq,nCq];refine Ae ?_;simp only[List.drop_succ_cons,List.drop_zero];go_wp2;refine NoPanic.normal ?_;go_wp2;go_roundg g
 case measure=>omega
 exact⟨i+1,len+1,ro,rc,by simp,by omega,rfl,by rw[HE.out,List.length_append, ←HA.out.2.2];rfl,by rw[HE.out,Kh];exact H8.out.1,H8.out.2⟩
def Gm (w w':World) (σ:AD Nd) (R:List Int) (e:Ending):Prop :=
 ∃(qo:Option Addr) (qc:Nat) (l:List (Int×Int×Int)),e=.returned (.tuple #[.slice qo l.length qc,.int .i64 (chk σ R)])∧w'.ownsRow w.heap.size 181 3 (.slice qo l.length qc) l.length (fdL l)∧Adds w w' ∧
  ((chk σ R≠0∧l = [])∨(chk σ R=0∧∃k,Wanting σ R k.todo.length k∧l=IL σ k.cnt))
theorem PL (h:ROw w0 w b σ G) (GG:Good σ) (cap:Nat) (hR:Az w ao R) (hl:R.length<4611686018427387904) :
 Calls Tryz.prog 27 #[.pointer (some ⟨b,0,none⟩),.slice ao R.length cap] w fun e w'=>Gm w w' σ R e:=by
 unfold Gm;by_cases hc:chk σ R=0
 · refine(ND h GG cap hR hc).mono fun e w' ⟨v,k,he,hW,own,ha⟩=>?_
   obtain⟨q,qc,rfl⟩:=Ar own;exact⟨q,qc,_,by rw[he,hc],own,ha,.inr ⟨hc,k,hW,rfl⟩⟩
 refine(QB h GG cap hR hl hc).mono fun e w' ⟨he,ha⟩=>⟨none,0,[],he,World.ownsRow_nil _ _ _ _,ha,.inl ⟨hc,rfl⟩⟩
end
section
variable {w : World} {s : Nat} {F : Nat→Prop} {σ : AD Nd} {ao : Option Addr} {R : List Int}
theorem SN (h:At w s F σ) (G:Good σ) (cap:Nat) (hR:Az w ao R) (hl:R.length<4611686018427387904) :
 Calls Tryz.prog 26 #[.pointer (some ⟨s,0,none⟩),.slice ao R.length cap] w fun e w'=>Gm w w' σ R e:=by
 unfold Gm;by_cases hc:chk σ R=0
 · refine(PD h G cap hR hc).mono fun e w' ⟨v,k,he,hW,own,ha⟩=>?_
   obtain⟨q,qc,rfl⟩:=Ar own;exact⟨q,qc,_,by rw[he,hc],own,ha,.inr ⟨hc,k,hW,rfl⟩⟩
 refine(Q1 h cap hR hl hc).mono fun e w' ⟨he,ha⟩=>⟨none,0,[],he,World.ownsRow_nil _ _ _ _,ha,.inl ⟨hc,rfl⟩⟩
theorem OV {k1 k2:Wk} (W1:Wanting σ R k1.todo.length k1) (W2:Wanting σ R k2.todo.length k2):(k1.todo.filter fun x=>decide (1<k1.cnt x)).length=(k2.todo.filter fun x=>decide (1<k2.cnt x)).length:=by
 obtain⟨hp,hc⟩:=W1.same W2;rw[hc];exact(hp.filter _).length_eq
end
end Go.Proofs.YtooijgcildbnlaaGreat.Store
namespace Go.Proofs.YtooijgcildbnlaaGreat.Store
open Go.RowKit Go.Proofs.YtooijgcildbnlaaGreat.ShaW Go.Proofs.YtooijgcildbnlaaGreat.Path Go.Proofs.YtooijgcildbnlaaGreat.CI
theorem SZ (w:World):(Go.sizeOf 141).run Tryz.prog w=.ok 33 w:=by
 obtain⟨i0,z0,p1,p2,p3,p4,p5⟩:=GZ;simp[Go.sizeOf,Go.typeInfo,p1,p3,go_sem]
theorem Sp.PQ {x:Sp} (h:x.Ok):x.entry[32]?=some x.addr:=by
 rw[←Array.getElem?_toList]
 show(x.key.map bv ++ [x.addr])[32]?=_
 rw[List.getElem?_append_right (by simp[h.key])];simp[h.key]
section
variable {w w' : World} {b : Nat} {F : Nat→Prop} {ρ : Rs} {σ : AD Nd}
theorem RAt.VA (h:RAt w b F ρ) (n:Int):Bytes w (ρ.sp n).addr (ρ.sp n).value∧∀k,(ρ.sp n).addr.ownBlock=some k→F k:=by
 have hz:Bytes w Sp.zero.addr Sp.zero.value∧∀k,Sp.zero.addr.ownBlock=some k→F k:=⟨Bytes.nil _,fun k hk=>by cases hk⟩
 rcases ρ.parts n with ho|⟨m,x,rfl,hm,hx⟩
 · rw[ρ.JM ho];exact hz
 rw[ρ.Li hx];split
 · exact hz
 obtain⟨_,_,_,_,_,_,h4,_⟩:=h;exact⟨(h4 x (List.mem_of_getElem? hx)).1,fun k hk=>((h4 x (List.mem_of_getElem? hx)).2 k hk).1⟩
theorem SF (h:RAt w b F ρ) (L:Lk σ ρ) (G:Good σ) (n:Int) :
 Calls Tryz.prog 246 #[.pointer (some ⟨b,0,none⟩),.int .i64 n] w fun e w'=>∃v,e=.returned v∧Bytes w' v (nd σ n).value∧(∀k,v.ownBlock=some k→F k)∧Adds w w':=by
 have hg:=CX h n;obtain⟨hok,ho,hs⟩:=h.1.ok n;have hv:=h.VA n;rw[L.value G] at hv;obtain⟨N,hN⟩:∃N,N=(ρ.sp n).cells:=⟨_,rfl⟩
 obtain⟨E,hE⟩:∃E,E=(ρ.sp n).entry:=⟨_,rfl⟩
 obtain⟨V,hV⟩:∃V,V=(ρ.sp n).addr:=⟨_,rfl⟩
 have k0:=Sp.Ob hok;have k1:=Sp.PQ hok;obtain⟨ao,len,cap,ha⟩:=hok.addr;rw[←hV] at ha;subst ha;rw[←hN, ←hE] at k0;rw[←hE, ←hV] at k1;rw[←hN] at hg;rw[←hV] at hv;have hf1:=fun w=>KZ (P:=Tryz.prog) (w:=w) Tryz.underlying254 (i:=2) rfl (Tryz.isAgg141 w) (SZ w) k0
 have hf2:=fun w=>BH (P:=Tryz.prog) (w:=w) Tryz.underlying141 (i:=1) rfl (Tryz.isAgg73 w) k1
 have HG:=Lib.hid hg;have HV:=Lib.hid hv;clear hg hok ho hs hN k0 k1 hE hV hv h L G;go_enter Tryz.func246,Tryz.ntmps246;go_wp2_with fail;refine HG.out.mono ?_;rintro e w1 ⟨rfl,a1⟩;have A1:=Lib.hid a1;clear a1;go_wp2;go_ret;exact⟨_,rfl,HV.out.1.Am A1.out (fun _ _ h=>h),HV.out.2,A1.out⟩
theorem Ra (h:RAt w b F ρ) (L:Lk σ ρ) (G:Good σ) {n:Int} (hk:(nd σ n).kind=1) :
 Calls Tryz.prog 245 #[.pointer (some ⟨b,0,none⟩),.int .i64 n] w fun e w'=>e=.returned (.agg (AJ (nd σ n).key))∧Adds w w':=by
 obtain⟨s,hs⟩:∃s,σ.get? n=some s:=by
  cases hx:σ.get? n with
  | none=>rw[B9 hx] at hk;exact absurd (show(0:Nat)=1 from hk) (by decide)
  | some x=>exact⟨x,rfl⟩
 rw[Ay hs] at hk ⊢;have hrep:Rep (sk σ) n 0 (.leaf (stat s.1).key (stat s.1).value):=.leaf (BV hs) hk;obtain⟨Z,hZ⟩:∃Z,Z=AJ (List.replicate 32 0):=⟨_,rfl⟩
 have hzp:=Gf;rw[←hZ] at hzp;have hZs:Z.size=32:=by rw[hZ];rfl
 have a0:Adds w (w.alloc (.cells Z 24)):=(Ch.refl _ w).alloc _;have hE:=DZ L G hrep (h.adds a0);have hg:=fun w1 (a:Adds w w1)=>CX (h.adds a) n
 obtain⟨N,hN⟩:∃N,N=(ρ.sp n).cells:=⟨_,rfl⟩
 have k0:N[0]?=some (.int .u8 1):=by
  rw[hN,Sp.Av,L.kind G,Ay hs,hk];rfl
 rw[←hN] at hg;have hfd:=fun w=>BH (P:=Tryz.prog) (w:=w) Tryz.underlying254 (i:=0) rfl (Tryz.isAgg113 w) k0
 have HE:=Lib.hid hE;have HG:=Lib.hid hg;have HZ:=(hIq hzp (aIq hZs a0))
 obtain⟨K,hK⟩:∃K,K=AJ s.1.key:=⟨_,rfl⟩
 have hkl:s.1.key.length=32:=(G.fit.all _ _ (BV hs)).key;have hKs:K.size=32∧∀v∈K.toList,v.oneCell'=true:=by rw[hK];exact⟨by rw[AY,hkl],fun v hv=>by simp[AJ] at hv;obtain⟨_,_,rfl⟩:=hv;rfl⟩
 have HK:=(hIq hKs hK)
 rw[←hK];clear hE hg hzp hZs a0 hN k0 hrep h hZ hKs hK hkl;go_enter Tryz.func245,Tryz.ntmps245
 go_wp2_with (first
  | fail
  | ((with_reducible show zOq (.alloc 24));refine AH rfl 24 rfl (.agg Z) HZ.out.1 ?_;dsimp only[Value.cells];try simp only[World.size_alloc]))
 refine HE.out.mono ?_;rintro e w1 ⟨v,out,rfl,hp,he,hn,hx,a1⟩;obtain⟨ao,cap,rfl⟩:=Ar hp
 have hlen:out.length=1:=by
  have:=congrArg List.length he;simpa[Tr.Ai] using this
 obtain⟨p,rfl⟩:=List.length_eq_one_iff.1 hlen
 have hpe:p.key=s.1.key:=by
  have:=he;simp[Tr.Ai,Pr.ent] at this;exact this.1
 obtain⟨g,cap',cur,e1,e2,e3,e4,e5,e6⟩:=BZ hp (by simp)
 have hcur:cur.extract 0 (0+32)=K:=by
  have h2:BG [p]=p.key.map bv ++ [p.vv]:=by simp[BG,Pr.list]
  have hpl:p.key.length=32:=(hx p (List.mem_singleton.2 rfl)).1
  have h1:cur.toList.take 33=p.key.map bv ++ [p.vv]:=by
   rw[←h2, ←e6];rfl
  have h3:cur.toList.take 32=p.key.map bv:=by
   have h4:(cur.toList.take 33).take 32=cur.toList.take 32:=by rw[List.take_take];rfl
   rw[←h4,h1,List.take_append_of_le_length (by simp[hpl]),List.take_of_length_le (by simp[hpl])]
  rw[hpe] at h3;apply Array.ext';rw[Array.toList_extract,HK.out.2];simpa[List.extract,AJ] using h3
 cases e1;have hk1:=a1.row (heap_alloc_new w (.cells Z 24)) id;have A1:=Lib.hid (HZ.out.2.2.trans a1 (fun _=>fEq));have H1:=(hIq hk1 (aIq e2 (aIq hcur (by have e3' : [p].length≤cap:=e3;simp at e3';omega:32≤cur.size))))
 have hgb:w.heap.size<g:=by
  have:=(hp.lt g rfl).1;simp at this;omega
 clear hp he hn hx a1 hpe e2 e3 e4 e5 e6 hcur hk1;go_wp2_with fail;refine(HG.out _ A1.out).mono ?_;rintro e w2 ⟨rfl,a2⟩;have H2:=(hIq (a2.row H1.out.1 id) (aIq (a2.row H1.out.2.1 id) (A1.out.trans a2 (fun _=>fEq))))
 have hlt:=Ad H2.out.1;clear a2
 go_wp2_with (first
  | fail
  | ((with_reducible show zOq (.load 24 _));refine AK rfl 24 _ rfl g 0 rfl H2.out.2.1 Tryz.underlying24 rfl Au (by have:=H1.out.2.2.2;omega) K H1.out.2.2.1 ?_)
  | ((with_reducible show zOq (.store 24 _ _));refine AE rfl 24 _ _ rfl w.heap.size 0 K rfl rfl H2.out.1 (by rw[Au,HK.out.1.1]) (by rw[HK.out.1.1,HZ.out.2.1];omega) HK.out.1.2 K (by rw[AI _ _ (by rw[Array.length_toList,Array.length_toList,HK.out.1.1,HZ.out.2.1])]) ?_))
 exact AN (p:=4) rfl rfl (AF H2.out.1 _) Tryz.underlying24 rfl (by rw[Au,HK.out.1.1]) rfl ⟨rfl,H2.out.2.2.setRow (.inr (Nat.le_refl _)) _⟩
end
end Go.Proofs.YtooijgcildbnlaaGreat.Store
namespace Go.Proofs.YtooijgcildbnlaaGreat.Store
open Go.RowKit Go.Proofs.YtooijgcildbnlaaGreat.ShaW Go.Proofs.YtooijgcildbnlaaGreat.Path
section
variable {w0 w w' : World} {b : Nat} {σ : AD Nd} {F G : Nat→Prop}
theorem ROw.value (h:ROw w0 w b σ G) (GG:Good σ) (n:Int):Calls Tryz.prog 246 #[.pointer (some ⟨b,0,none⟩),.int .i64 n] w fun e w'=>∃v,e=.returned v∧Bytes w' v (nd σ n).value∧(∀k,v.ownBlock=some k→w0.heap.size≤k∧¬G k)∧Adds w w':=by
 obtain⟨ρ,F,h1,L,h2,h3,h4⟩:=h;exact(SF h1 L GG n).mono fun e w' ⟨v,he,hb,hv,a⟩=>⟨v,he,hb,fun k hk=>⟨h2 k (hv k hk),fun hg=>(h4 k hg).1 (hv k hk)⟩,a⟩
end
section
variable {w0 w w' : World} {b : Nat} {σ : AD Nd} {F G : Nat→Prop}
def Yr (b0:Nat) (K:Array Value) (ao:Option Addr) (cap:Nat) (l:List Int) (w:World):Prop :=
 w.heap[b0]?=some (.cells K 24 (0,0))∧w.ownsRow 0 3 1 (.slice ao l.length cap) l.length (hl l)
def Y5 (G:Nat→Prop) (b0:Nat) (ao:Option Addr) (n cap:Nat) (k:Nat):Prop:=G k∨k=b0∨(Value.slice ao n cap).ownBlock=some k
end
def O8 (σ:AD Nd) (r:Int) (bs:List UInt8):Int:=if 1024<bs.length then 4 else if Ou σ r≠0 then Ou σ r else if Xz σ 1=false then 9 else 0
def Xl (σ:AD Nd) (r:Int) (key bs:List UInt8) (x:Int) (σ':AD Nd):Prop :=
 (O8 σ r bs≠0∧x=0∧σ'=σ)∨(O8 σ r bs=0∧∃l e1,On (sk σ) key r 0 l e1∧((Uf σ key bs e1=true∧x=r∧σ'=σ)∨(Uf σ key bs e1=false∧∃v,x=(Xw σ r key bs v l e1).1∧σ'=(Xw σ r key bs v l e1).2)))
def Qm (σ:AD Nd) (r:Int) (bs:List UInt8):Int:=if 1024<bs.length then 4 else Ou σ r
def Yb (σ:AD Nd) (r:Int) (key bs:List UInt8) (x:Int):Prop :=
 (Qm σ r bs≠0∧x=0)∨(Qm σ r bs=0∧∃l e1,On (sk σ) key r 0 l e1∧x=if Uf σ key bs e1=true then (0:Int) else ((V2 σ key l e1:Nat):Int))

def WA (w0 w:World) (c s b:Nat) (σ τ:AD Nd) (root:Int) (aside:List Int) (G:Nat→Prop):Prop :=
 ∃ρ F1 F2 vA,At w s F1 σ∧RAt w b F2 ρ∧Lk τ ρ∧w.heap[c]?=some (.cells #[.pointer (some ⟨s,0,none⟩),.pointer (some ⟨b,0,none⟩),.int .i64 root,vA] 41 (0,0)) ∧
  w.ownsRow 0 3 1 vA aside.length (hl aside)∧(∀k,F1 k→w0.heap.size≤k)∧(∀k,F2 k→w0.heap.size≤k∧¬F1 k)∧(w0.heap.size≤c∧¬F1 c∧¬F2 c) ∧
  (∀k,vA.ownBlock=some k→w0.heap.size≤k∧k≠c∧¬F1 k∧¬F2 k)∧Adds w0 w∧∀k,G k→¬F1 k∧¬F2 k∧k≠c∧vA.ownBlock≠some k∧k<w.heap.size
section
variable {w0 w w' : World} {c s b : Nat} {σ σ' τ τ' : AD Nd} {root : Int} {aside : List Int} {G : Nat→Prop}
theorem At.lt {F:Nat→Prop} (h:At w s F σ):∀k,F k→k<w.heap.size:=by obtain⟨_,_,_,_,_,_,_,q⟩:=h;exact q
end
end Go.Proofs.YtooijgcildbnlaaGreat.Store

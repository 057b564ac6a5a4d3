/- Laws of the layers below. -/
import Derived.Test.YtngbdbpofifimaaGreatQm29
set_option maxHeartbeats 3200000
set_option maxRecDepth 100000
set_option linter.unusedVariables false
namespace Go.Proofs.YtngbdbpofifimaaGreat.Store
open Go.RowKit Go.Proofs.YtngbdbpofifimaaGreat.ShaW Go.Proofs.YtngbdbpofifimaaGreat.Path Go.Proofs.YtngbdbpofifimaaGreat.Bk
theorem Q8 (w:World):(Go.sizeOf 86).run Tryz.prog w=.ok 33 w:=by
 obtain⟨i0,z0,p1,p2,p3,p4,p5⟩:=GR;simp[Go.sizeOf,Go.typeInfo,p1,p3,go_sem]
theorem Sp.Ob {x:Sp} (h:x.Ok):x.entry[32]?=some x.addr:=by
 rw[←Array.getElem?_toList]
 show(x.key.map bv ++ [x.addr])[32]?=_
 rw[List.getElem?_append_right (by simp[h.key])];simp[h.key]
section
variable {w w' : World} {b : Nat} {F : Nat→Prop} {ρ : Rs} {σ : AG Nd}
theorem RAt.UC (h:RAt w b F ρ) (n:Int):Bytes w (ρ.sp n).addr (ρ.sp n).value∧∀k,(ρ.sp n).addr.ownBlock=some k→F k:=by
 have hz:Bytes w Sp.zero.addr Sp.zero.value∧∀k,Sp.zero.addr.ownBlock=some k→F k:=⟨Bytes.nil _,fun k hk=>by cases hk⟩
 rcases ρ.parts n with ho|⟨m,x,rfl,hm,hx⟩
 · rw[ρ.Im ho];exact hz
 rw[ρ.La hx];split
 · exact hz
 obtain⟨_,_,_,_,_,_,h4,_⟩:=h;exact⟨(h4 x (List.mem_of_getElem? hx)).1,fun k hk=>((h4 x (List.mem_of_getElem? hx)).2 k hk).1⟩
theorem QP (h:RAt w b F ρ) (L:Lk σ ρ) (G:Good σ) (n:Int) :
 Calls Tryz.prog 298 #[.pointer (some ⟨b,0,none⟩),.int .i64 n] w fun e w'=>∃v,e=.returned v∧Bytes w' v (nd σ n).value∧(∀k,v.ownBlock=some k→F k)∧AN w w':=by
 have hg:=DJ h n;obtain⟨hok,ho,hs⟩:=h.1.ok n;have hv:=h.UC n;rw[L.value G] at hv;obtain⟨N,hN⟩:∃N,N=(ρ.sp n).cells:=⟨_,rfl⟩
 obtain⟨E,hE⟩:∃E,E=(ρ.sp n).entry:=⟨_,rfl⟩
 obtain⟨V,hV⟩:∃V,V=(ρ.sp n).addr:=⟨_,rfl⟩
 have k0:=Sp.NH hok;have k1:=Sp.Ob hok;obtain⟨ao,len,cap,ha⟩:=hok.addr;rw[←hV] at ha;subst ha;rw[←hN, ←hE] at k0;rw[←hE, ←hV] at k1;rw[←hN] at hg;rw[←hV] at hv;have hf1:=fun w=>Kq (P:=Tryz.prog) (w:=w) Tryz.underlying262 (i:=2) rfl (Tryz.isAgg86 w) (Q8 w) k0
 have hf2:=fun w=>BJ (P:=Tryz.prog) (w:=w) Tryz.underlying86 (i:=1) rfl (Tryz.isAgg29 w) k1
 have HG:=Lib.hid hg;have HV:=Lib.hid hv;clear hg hok ho hs hN k0 k1 hE hV hv h L G;go_enter Tryz.func298,Tryz.ntmps298;go_wp2_with fail;refine HG.out.mono ?_;rintro e w1 ⟨rfl,a1⟩;have A1:=Lib.hid a1;clear a1;go_wp2;go_ret;exact⟨_,rfl,HV.out.1.Ae A1.out (fun _ _ h=>h),HV.out.2,A1.out⟩
theorem Q1 (h:RAt w b F ρ) (L:Lk σ ρ) (G:Good σ) {n:Int} (hk:(nd σ n).kind=1) :
 Calls Tryz.prog 261 #[.pointer (some ⟨b,0,none⟩),.int .i64 n] w fun e w'=>e=.returned (.agg (AS (nd σ n).key))∧AN w w':=by
 obtain⟨s,hs⟩:∃s,σ.get? n=some s:=by
  cases hx:σ.get? n with
  | none=>rw[B9 hx] at hk;exact absurd (show(0:Nat)=1 from hk) (by decide)
  | some x=>exact⟨x,rfl⟩
 rw[Ap hs] at hk ⊢;have hrep:Rep (sk σ) n 0 (.leaf (stat s.1).key (stat s.1).value):=.leaf (Bl hs) hk;obtain⟨Z,hZ⟩:∃Z,Z=AS (List.replicate 32 0):=⟨_,rfl⟩
 have hzp:=Ft;rw[←hZ] at hzp;have hZs:Z.size=32:=by rw[hZ];rfl
 have a0:AN w (w.alloc (.cells Z 47)):=(Ch.refl _ w).alloc _;have hE:=GV L G hrep (h.adds a0);have hg:=fun w1 (a:AN w w1)=>DJ (h.adds a) n
 obtain⟨N,hN⟩:∃N,N=(ρ.sp n).cells:=⟨_,rfl⟩
 have k0:N[0]?=some (.int .u8 1):=by
  rw[hN,Sp.Ar,L.kind G,Ap hs,hk];rfl
 rw[←hN] at hg;have hfd:=fun w=>BJ (P:=Tryz.prog) (w:=w) Tryz.underlying262 (i:=0) rfl (Tryz.isAgg90 w) k0
 have HE:=Lib.hid hE;have HG:=Lib.hid hg;have HZ:=(hIq hzp (aIq hZs a0))
 obtain⟨K,hK⟩:∃K,K=AS s.1.key:=⟨_,rfl⟩
 have hkl:s.1.key.length=32:=(G.fit.all _ _ (Bl hs)).key;have hKs:K.size=32∧∀v∈K.toList,v.oneCell'=true:=by rw[hK];exact⟨by rw[AU,hkl],fun v hv=>by simp[AS] at hv;obtain⟨_,_,rfl⟩:=hv;rfl⟩
 have HK:=(hIq hKs hK)
 rw[←hK];clear hE hg hzp hZs a0 hN k0 hrep h hZ hKs hK hkl;go_enter Tryz.func261,Tryz.ntmps261
 go_wp2_with (first
  | fail
  | ((with_reducible show zOq (.alloc 47));refine AO rfl 47 rfl (.agg Z) HZ.out.1 ?_;dsimp only[Value.cells];try simp only[World.size_alloc]))
 refine HE.out.mono ?_;rintro e w1 ⟨v,out,rfl,hp,he,hn,hx,a1⟩;obtain⟨ao,cap,rfl⟩:=Am hp
 have hlen:out.length=1:=by
  have:=congrArg List.length he;simpa[Tr.Ah] using this
 obtain⟨p,rfl⟩:=List.length_eq_one_iff.1 hlen
 have hpe:p.key=s.1.key:=by
  have:=he;simp[Tr.Ah,Pr.ent] at this;exact this.1
 obtain⟨g,cap',cur,e1,e2,e3,e4,e5,e6⟩:=Bq hp (by simp)
 have hcur:cur.extract 0 (0+32)=K:=by
  have h2:BZ [p]=p.key.map bv ++ [p.vv]:=by simp[BZ,Pr.list]
  have hpl:p.key.length=32:=(hx p (List.mem_singleton.2 rfl)).1
  have h1:cur.toList.take 33=p.key.map bv ++ [p.vv]:=by
   rw[←h2, ←e6];rfl
  have h3:cur.toList.take 32=p.key.map bv:=by
   have h4:(cur.toList.take 33).take 32=cur.toList.take 32:=by rw[List.take_take];rfl
   rw[←h4,h1,List.take_append_of_le_length (by simp[hpl]),List.take_of_length_le (by simp[hpl])]
  rw[hpe] at h3;apply Array.ext';rw[Array.toList_extract,HK.out.2];simpa[List.extract,AS] using h3
 cases e1;have hk1:=a1.row (heap_alloc_new w (.cells Z 47)) id;have A1:=Lib.hid (HZ.out.2.2.trans a1 (fun _=>fEq));have H1:=(hIq hk1 (aIq e2 (aIq hcur (by have e3' : [p].length≤cap:=e3;simp at e3';omega:32≤cur.size))))
 have hgb:w.heap.size<g:=by
  have:=(hp.lt g rfl).1;simp at this;omega
 clear hp he hn hx a1 hpe e2 e3 e4 e5 e6 hcur hk1;go_wp2_with fail;refine(HG.out _ A1.out).mono ?_;rintro e w2 ⟨rfl,a2⟩;have H2:=(hIq (a2.row H1.out.1 id) (aIq (a2.row H1.out.2.1 id) (A1.out.trans a2 (fun _=>fEq))))
 have hlt:=Ad H2.out.1;clear a2
 go_wp2_with (first
  | fail
  | ((with_reducible show zOq (.load 47 _));refine AJ rfl 47 _ rfl g 0 rfl H2.out.2.1 Tryz.underlying47 rfl Ab (by have:=H1.out.2.2.2;omega) K H1.out.2.2.1 ?_)
  | ((with_reducible show zOq (.store 47 _ _));refine AI rfl 47 _ _ rfl w.heap.size 0 K rfl rfl H2.out.1 (by rw[Ab,HK.out.1.1]) (by rw[HK.out.1.1,HZ.out.2.1];omega) HK.out.1.2 K (by rw[AT _ _ (by rw[Array.length_toList,Array.length_toList,HK.out.1.1,HZ.out.2.1])]) ?_))
 exact Af (p:=4) rfl rfl (AK H2.out.1 _) Tryz.underlying47 rfl (by rw[Ab,HK.out.1.1]) rfl ⟨rfl,H2.out.2.2.setRow (.inr (Nat.le_refl _)) _⟩
end
end Go.Proofs.YtngbdbpofifimaaGreat.Store
namespace Go.Proofs.YtngbdbpofifimaaGreat.Path
open Go.RowKit Go.Proofs.YtngbdbpofifimaaGreat.Store
def clr (x:UInt8) (j:Nat):UInt8:=UInt8.ofNat (x.toNat-Ck x j*2 ^ (7-j))
def XL (k:List UInt8) (d:Nat):List UInt8:=k.set (d / 8) (clr (k.getD (d / 8) 0) (d % 8))
def WX (k:List UInt8) (d:Nat):Nat→List UInt8
 | 0=>k
 | n+1=>XL (WX k d n) (d+n)
end Go.Proofs.YtngbdbpofifimaaGreat.Path
namespace Go.Proofs.YtngbdbpofifimaaGreat
open Go.RowKit
section
variable {P : Program} {Q : Exit→Act→World→Prop} {md : Region.Mode} {S : World→Prop}
def P0 (P:Program) (l:List Oper) (Q:Exit→Act→World→Prop) (f:Nat) (S:World→Prop) (n:Nat):List (Nat×Bool)→Act→World→Prop
 | [],a,w=>wpOp P l.toArray Q f (fun a' w'=>S w'∧BQ P l Q S n [] a' w') a w
 | (i,false)::r,a,w=>∃o v,l[i]?=some o∧YieldsIf P l.toArray S o v a∧P0 P l Q f S n r (a.put o.dst v) w
 | (i,true)::r,a,w=>wpOp P l.toArray Q i (fun a' w'=>S w'∧P0 P l Q f S n r a' w') a w∧wpOp P l.toArray Q f (fun a' w'=>S w'∧BQ P l Q S n ((i,true)::r) a' w') a w
def Og (md:Region.Mode) (ops:Array Oper) (f n:Nat):List (Nat×Bool)→Array Bool→Bool
 | [],listed=>decide (f<n)&&decide (Region.ready md ops listed = [f])&&Fm md ops n [] (listed.setIfInBounds f true)
 | (i,false)::r,listed=>decide (i<n)&&(Region.ready md ops listed).contains i&&Region.free md ops listed i&&Og md ops f n r (listed.setIfInBounds i true)
 | (i,true)::r,listed=>decide (i<n)&&decide (f<n)&&(decide (Region.ready md ops listed = [i,f])||decide (Region.ready md ops listed = [f,i]))&&Og md ops f n r (listed.setIfInBounds i true)&&Fm md ops n ((i,true)::r) (listed.setIfInBounds f true)
def Wt (md:Region.Mode) (ops:Array Oper) (f n:Nat) (p:List (Nat×Bool)):Bool :=
 Region.noSelect ops&&decide (p.length+1=n)&&decide (n≤ops.size)&&Gq md ops n&&Og md ops f n p (Array.replicate ops.size false)
theorem FO {l:List Oper} {i:Nat} {a:Act} {w:World} {o:Oper} {K:Act→World→Prop} (ho:l[i]?=some o) (h:wpList P l.toArray (Exit.then K Q) [o] a w):wpOp P l.toArray Q i K a w:=by
 have ho':l.toArray[i]?=some o:=by simpa using ho
 unfold wpOp;simp only[ho'];unfold wpList at h;split
 · rename_i hw
   rw[if_pos hw] at h;refine h.imp (fun h=>?_) id;unfold Oper.wp at h ⊢;generalize (execOp a.eval o).run P w=r at h ⊢;cases r with
   | ok nx w' =>
    cases nx<;>simp only[Oper.upon,wpList,Exit.then] at h ⊢ <;>
     first
      | exact h
      | exact Calls.mono h (fun e w'' he=>by cases e<;>exact he)
   | halt x w'=>cases x<;>simp only[Oper.upon,Exit.then] at h ⊢ <;> exact h
 rename_i hw;rw[if_neg hw] at h;exact h
end
section
variable {P : Program} {Q : Exit→Act→World→Prop} {md : Region.Mode} {S : World→Prop} {q : List (Nat×Bool)}
def PU (P:Program) (l:List Oper) (Q:Exit→Act→World→Prop) (f:Nat) (S:World→Prop) (n:Nat) (q:List (Nat×Bool)):List (Nat×Bool)→Act→World→Prop
 | [],a,w=>wpOp P l.toArray Q f (fun a' w'=>S w'∧BQ P l Q S n q a' w') a w
 | (i,false)::r,a,w=>∃o v,l[i]?=some o∧YieldsIf P l.toArray S o v a∧PU P l Q f S n q r (a.put o.dst v) w
 | (i,true)::r,a,w=>wpOp P l.toArray Q i (fun a' w'=>S w'∧PU P l Q f S n q r a' w') a w∧wpOp P l.toArray Q f (fun a' w'=>S w'∧BQ P l Q S n ((i,true)::(r++q)) a' w') a w
def Ot (md:Region.Mode) (ops:Array Oper) (f n:Nat) (q:List (Nat×Bool)):List (Nat×Bool)→Array Bool→Bool
 | [],listed=>decide (f<n)&&decide (Region.ready md ops listed = [f])&&Fm md ops n q (listed.setIfInBounds f true)
 | (i,false)::r,listed=>decide (i<n)&&(Region.ready md ops listed).contains i&&Region.free md ops listed i&&Ot md ops f n q r (listed.setIfInBounds i true)
 | (i,true)::r,listed=>decide (i<n)&&decide (f<n)&&(decide (Region.ready md ops listed = [i,f])||decide (Region.ready md ops listed = [f,i]))&&Ot md ops f n q r (listed.setIfInBounds i true)&&Fm md ops n ((i,true)::(r++q)) (listed.setIfInBounds f true)
def Wo (md:Region.Mode) (ops:Array Oper) (f n:Nat) (q p:List (Nat×Bool)):Bool :=
 Region.noSelect ops&&decide (q.length+1+p.length=n)&&decide (n≤ops.size)&&Gq md ops n&&Ot md ops f n q p (Array.replicate ops.size false)
end
end Go.Proofs.YtngbdbpofifimaaGreat
namespace Go.Proofs.YtngbdbpofifimaaGreat.Store
open Go.RowKit Go.Proofs.YtngbdbpofifimaaGreat.ShaW Go.Proofs.YtngbdbpofifimaaGreat.Path Go.Proofs.YtngbdbpofifimaaGreat.Bk
section
variable {w w' : World} {b : Nat} {F : Nat→Prop} {ρ : Rs} {σ : AG Nd}
def XZ (w:World) (g:Nat) (cur Z:Array Value) (wz:World):Prop:=wz.heap[g]?=some (.cells cur 86 (0,0))∧wz.heap[w.heap.size]?=some (.cells Z 47 (0,0))∧AN w wz
end
end Go.Proofs.YtngbdbpofifimaaGreat.Store
namespace Go.Proofs.YtngbdbpofifimaaGreat.Store
open Go.RowKit Go.Proofs.YtngbdbpofifimaaGreat.ShaW Go.Proofs.YtngbdbpofifimaaGreat.Path
section
variable {w0 w w' : World} {b : Nat} {σ : AG Nd} {F G : Nat→Prop}
theorem ROw.MB (h:ROw w0 w b σ G) (GG:Good σ) {n:Int} (hk:(nd σ n).kind=1):Calls Tryz.prog 261 #[.pointer (some ⟨b,0,none⟩),.int .i64 n] w fun e w'=>e=.returned (.agg (AS (nd σ n).key))∧AN w w':=by
 obtain⟨ρ,F,h1,L,_⟩:=h;exact Q1 h1 L GG hk
theorem ROw.value (h:ROw w0 w b σ G) (GG:Good σ) (n:Int):Calls Tryz.prog 298 #[.pointer (some ⟨b,0,none⟩),.int .i64 n] w fun e w'=>∃v,e=.returned v∧Bytes w' v (nd σ n).value∧(∀k,v.ownBlock=some k→w0.heap.size≤k∧¬G k)∧AN w w':=by
 obtain⟨ρ,F,h1,L,h2,h3,h4⟩:=h;exact(QP h1 L GG n).mono fun e w' ⟨v,he,hb,hv,a⟩=>⟨v,he,hb,fun k hk=>⟨h2 k (hv k hk),fun hg=>(h4 k hg).1 (hv k hk)⟩,a⟩
theorem OV (h:ROw w0 w b σ G) (GG:Good σ) (root:Int) (key:List UInt8) (hk:key.length=32) {l:List Int} {e1:Int} (ho:On (sk σ) key root 0 l e1) :
 Calls Tryz.prog 257 #[.pointer (some ⟨b,0,none⟩),.int .i64 root,.agg (AS key)] w fun e w'=>∃v,e=.returned (.tuple #[v,.int .i64 e1])∧w'.ownsRow w.heap.size 3 1 v l.length (hl l)∧AN w w':=by
 obtain⟨i0,hi,hz0,hz1,hz2⟩:=SlabN.DZ;have HI:=(hIq hi (aIq hz0 (aIq hz1 hz2)))
 have hlen:l.length≤256:=by have:=ho.len GG.fit (by omega);omega
 have hbit:=fun d w1=>MH key hk d w1
 obtain⟨K,hK⟩:∃K,K=AS key:=⟨_,rfl⟩
 have hKs:K.size=32:=by rw[hK,AU,hk]
 rw[←hK] at hbit ⊢;have hsd:=fun w1 (a:AN w w1) n=>(h.adds a).sides GG n
 have hkd:=fun w1 (a:AN w w1) n=>(h.adds a).kind GG n
 have HO:=Lib.hid ho;have HB:=Lib.hid hbit;have SD:=Lib.hid hsd;have KD:=Lib.hid hkd;have HG:=Lib.hid GG;have HK:=Lib.hid hKs;have a0:AN w (w.alloc (.cells K 47)):=(Ch.refl _ w).alloc _;have A0:=Lib.hid a0;clear ho hbit hsd hK h GG hkd hi hz0 hz1 hz2 hKs a0;go_enter Tryz.func257,Tryz.ntmps257;go_wp2
 go_loopg [8,9,10,11] l.length (fun g s8 s9 s10 s11 wr=>∃(acc rest:List Int) (h1:Int),l=acc++rest∧g=rest.length∧s9=.int .i64 h1∧On (sk σ) key h1 acc.length rest e1 ∧
  wr.ownsRow (w.heap.size+1) 3 1 s8 acc.length (hl acc)∧AN w wr∧wr.heap[w.heap.size]?=some (.cells K 47 (0,0)))
 case atStart=>exact⟨[],l,root,rfl,rfl,rfl,HO.out,World.ownsRow_nil _ _ _ _,A0.out,heap_alloc_new _ _⟩
 obtain⟨acc,rest,h1,hl1,rfl,rfl,hon,hown,hA,hbx⟩:=hrel;have hsz:=hA.size;have hacc:acc.length+rest.length=l.length:=by rw[hl1,List.length_append]
 obtain⟨ao,cap,rfl⟩:=Am hown;have HL:=(hIq hl1 (aIq hown (aIq hA hbx)))
 clear hl1 hown hA hbx;have hkind:=KD.out _ HL.out.2.2.1 h1;cases hon with
 | stop h0 =>
  have hk2:(nd σ e1).kind≠2:=by
   rcases h0 with rfl|⟨n,hn,hk2⟩
   · show(0:Nat)≠2;decide
   rw[(Hd hn).2.1];exact hk2
  obtain⟨kd,hkd⟩:∃x,x=(nd σ e1).kind:=⟨_,rfl⟩
  rw[←hkd] at hk2 hkind;have hk2':¬((kd:Int)=2):=by omega
  have KI:=Lib.hid hkind;clear hkind hkd h0;go_wp2_with fail;refine KI.out.mono ?_;rintro e w3 ⟨rfl,a3⟩;have H3:=Lib.hid a3;clear a3;go_wp2;go_ret2;refine⟨_,rfl,?_,HL.out.2.2.1.trans H3.out (fun _=>fEq)⟩;have:=(H3.out.owns HL.out.2.1 (fun _ _ h=>h)).base (b':=w.heap.size) (fun k hk=>Nat.le_trans (Nat.le_succ _) ((HL.out.2.1).lt k hk).1);rw[HL.out.1,List.append_nil];exact this
 | @step _ _ n l2 _ hn hk2 hd hr2 =>
  have hx:=Hd hn;have hd1:=(HG.out.fit.inner hn hk2).d1;rw[hd] at hd1;have hbe:bit key (acc.length:Nat)=(Ao key acc.length:Nat):=Da (by omega);have hsid:=SD.out;have hss:=fun w1 (a:AN w w1)=>SD.out w1 a h1
  rw[hx.2.2.2.1,hx.2.2.2.2.1] at hss;have hbb:=fun w1=>HB.out (acc.length:Nat) w1
  obtain⟨bt,hbt⟩:∃x,x=bit key (acc.length:Nat):=⟨_,rfl⟩
  rw[←hbt] at hbb hbe;obtain⟨lf,hlf⟩:∃x,x=n.left:=⟨_,rfl⟩
  obtain⟨rg,hrg⟩:∃x,x=n.right:=⟨_,rfl⟩
  rw[←hlf, ←hrg] at hss hr2;rw[show(nd σ h1).kind=2 by rw[hx.2.1];exact hk2] at hkind;have KI:=Lib.hid hkind;have HS:=Lib.hid hss;have HBB:=Lib.hid hbb;have hrl:l2.length+1=(h1::l2).length:=rfl;have hacc':acc.length≤256:=by omega
  have HR:=Lib.hid hr2;have HBE:=Lib.hid hbe;obtain⟨na,hna⟩:∃x,x=acc.length:=⟨_,rfl⟩
  have hw1:IntKind.i64.wrap ((na:Int)+1-1)=(na:Int):=by rw[show(na:Int)+1-1=na by omega];exact IntWalk.i64_in _ (by omega)
  have HNA:=Lib.hid hna;rw[←hna] at HBB HL hacc' hacc ⊢;clear hkind hn hk2 hd hx hd1 hbe hbt hlf hrg hr2 hsid hss hbb hna;go_wp2_with fail;refine KI.out.mono ?_;rintro e w3 ⟨rfl,a3⟩;have o3:=a3.owns HL.out.2.1 (fun _ _ h=>h);have b3:=a3.row HL.out.2.2.2 id;have A3:=HL.out.2.2.1.trans a3 (fun _=>fEq);have H3:=(hIq o3 (aIq b3 A3))
  clear a3 o3 b3 A3;go_wp2_with fail;refine(HS.out _ H3.out.2.2).mono ?_;rintro e w4 ⟨rfl,a4⟩;have o4:=a4.owns H3.out.1 (fun _ _ h=>h);have b4:=a4.row H3.out.2.1 id;have A4:=H3.out.2.2.trans a4 (fun _=>fEq);have s4:=A4.size;have H4:=(hIq o4 (aIq b4 A4))
  have s4':=Ad b4;clear a4 o4 b4 A4 H3
  go_wp2_with (first
   | fail
   | (at_builtin;refine wpList_append_own_at _ rfl _ _ 61 rfl (w.heap.size+1) 3 i0 (.int .i64 0) 1 8 Tryz.underlying61 HI.out.1 HI.out.2.1 HI.out.2.2.1 HI.out.2.2.2 rfl (by decide) (.slice ao na cap) _ _ rfl (H4.out.1.alloc _) ⟨w4.heap.size,0,none⟩ 1 1 [.int .i64 h1] rfl rfl (cell_one_new _ _ _) (by simp[Value.oneCell']) (by unfold maxLen;omega) (by omega) (by simp;omega) ?_;intro v' w5 hown' hgrow hnil hloc;have hg5:=((Ch.refl (fun j=>Value.ownBlock (.slice ao na cap)=some j) w4).alloc _).grown hgrow (fun j hj=>.inl hj);have HN5:=(hIq hown' (aIq (H4.out.2.2.trans hg5 (fun j hj=>.inr (Nat.le_trans (Nat.le_succ _) (H4.out.1.lt j hj).1))) (hg5.row H4.out.2.1 (fun hj=>Nat.lt_irrefl _ (H4.out.1.lt _ hj).1))));obtain⟨ro,rc,rfl⟩:=Am hown';clear hown' hgrow hnil hloc hg5)
   | ((with_reducible show zOq (.load 47 _));refine AJ rfl 47 _ rfl w.heap.size 0 rfl HN5.out.2.2 Tryz.underlying47 rfl Ab (by rw[HK.out];omega) K (by simp[←HK.out]) ?_))
  refine(HBB.out _).mono ?_;rintro e w6 ⟨rfl,a6⟩;have H6:=(hIq (a6.owns HN5.out.1 (fun _ _ h=>h)) (aIq (HN5.out.2.1.trans a6 (fun _=>fEq)) (a6.row HN5.out.2.2 id)))
  clear a6;by_cases hb1:bt=1
  · have hr2:On (sk σ) key rg (na+1) l2 e1:=by
     have:=HR.out;rw[if_neg (by have:=HBE.out;omega), ←HNA.out] at this;exact this
    have HR2:=Lib.hid hr2;clear hr2;go_wp2;go_roundg l2.length
    case measure=>simp
    exact⟨acc ++ [h1],l2,rg,by rw[HL.out.1];simp,rfl,rfl,by rw[List.length_append, ←HNA.out];exact HR2.out,by rw[List.length_append, ←HNA.out];simpa[hl] using H6.out.1,H6.out.2.1,H6.out.2.2⟩
  have hr2:On (sk σ) key lf (na+1) l2 e1:=by
   have:=HR.out;have hkb:=BX key acc.length;rw[if_pos (by have:=HBE.out;omega), ←HNA.out] at this;exact this
  have HR2:=Lib.hid hr2;clear hr2;go_wp2;go_roundg l2.length
  case measure=>simp
  exact⟨acc ++ [h1],l2,lf,by rw[HL.out.1];simp,rfl,rfl,by rw[List.length_append, ←HNA.out];exact HR2.out,by rw[List.length_append, ←HNA.out];simpa[hl] using H6.out.1,H6.out.2.1,H6.out.2.2⟩
theorem JE (h:ROw w0 w b σ G) (root:Int) (ao:Option Addr) (len cap:Nat) (hl:1024<len):Calls Tryz.prog 256 #[.pointer (some ⟨b,0,none⟩),.int .i64 root,.slice ao len cap] w fun e w'=>e=.returned (.int .i64 4)∧AN w w':=by
 have HN:=Lib.hid h.Vf;clear h;go_enter Tryz.func256,Tryz.ntmps256;go_wp2_with fail;refine HN.out.mono ?_;rintro e w1 ⟨rfl,rfl⟩;go_wp2;go_ret;exact⟨rfl,Ch.refl _ _⟩
theorem DO (h:ROw w0 w b σ G) (GG:Good σ) (root:Int) (ao:Option Addr) (len cap:Nat) (hl:len≤1024):Calls Tryz.prog 256 #[.pointer (some ⟨b,0,none⟩),.int .i64 root,.slice ao len cap] w fun e w'=>e=.returned (.int .i64 (Az σ root))∧AN w w':=by
 have HN:=Lib.hid h.Vf;have HA:=Lib.hid (JF h GG root);clear h GG;go_enter Tryz.func256,Tryz.ntmps256;go_wp2_with fail;refine HN.out.mono ?_;rintro e w1 ⟨rfl,rfl⟩;go_wp2_with fail;refine HA.out.mono ?_;rintro e w1 ⟨rfl,a1⟩;go_wp2;go_ret;exact⟨rfl,a1⟩
theorem J3 (h:ROw w0 w b σ G) (GG:Good σ) (e1:Int) (key:List UInt8) (hk:key.length=32) {vv:Value} {bs:List UInt8} (hb:Bytes w vv bs) :
 Calls Tryz.prog 258 #[.pointer (some ⟨b,0,none⟩),.int .i64 e1,.agg (AS key),vv] w fun e w'=>e=.returned (.bool (Dh σ key bs e1))∧AN w w':=by
 obtain⟨ao,cap,hvv,_⟩:=hb.form;have hkd:=fun w1 (a:AN w w1)=>(h.adds a).kind GG e1
 have hky:=fun w1 (a:AN w w1) (hk1:(nd σ e1).kind=1)=>(h.adds a).MB GG hk1
 have hvl:=fun w1 (a:AN w w1)=>(h.adds a).value GG e1
 unfold Dh;obtain⟨K,hK⟩:∃K,K=AS key:=⟨_,rfl⟩
 have hKs:K.size=32:=by rw[hK,AU,hk]
 rw[←hK];have HK:=Lib.hid hKs;have HB:=Lib.hid hb;by_cases hk1:(nd σ e1).kind=1
 · have hkl:(nd σ e1).key.length=32:=by
    cases hx:σ.get? e1 with
    | none=>rw[B9 hx] at hk1;exact absurd (show(0:Nat)=1 from hk1) (by decide)
    | some x=>rw[Ap hx];exact(GG.fit.all _ _ (Bl hx)).key
   have heq:=IH 47 Tryz.underlying47 (nd σ e1).key key hkl hk;obtain⟨ek,hek⟩:∃x,x=decide ((nd σ e1).key=key):=⟨_,rfl⟩
   obtain⟨K2,hK2⟩:∃K2,K2=AS (nd σ e1).key:=⟨_,rfl⟩
   obtain⟨vl,hvl'⟩:∃x,x=(nd σ e1).value:=⟨_,rfl⟩
   have hky:=fun w1 (a:AN w w1)=>hky w1 a hk1
   rw[←hK, ←hK2, ←hek] at heq;rw[←hK2] at hky;rw[←hvl'] at hvl;rw[hk1] at hkd;rw[←hek, ←hvl',hk1];have HQ:=Lib.hid heq;have HY:=Lib.hid hky;have HV:=Lib.hid hvl;have KD:=Lib.hid hkd;have e1':(((1:Nat):Int) == 1)=true:=rfl;clear heq hky hvl hkd hKs hb hK hK2 hek hvl' hkl h GG hk1;subst hvv;cases ek with
   | false =>
    go_enter Tryz.func258,Tryz.ntmps258;go_wp2;refine AP (fun wz=>wz.heap[w.heap.size]?=some (.cells K 47 (0,0))∧AN w wz) 20 [(0,false),(1,false),(2,true),(3,false),(4,false),(5,false),(6,false),(8,false),(7,true),(9,false),(10,false),(11,false),(12,false),(13,false),(16,false),(17,false),(14,false),(15,false),(18,false),(19,false)] (by kernel_rfl) (by kernel_rfl) ?_ ?_
    · exact⟨AM (heap_alloc_new _ _),((Ch.refl _ w).alloc _).drew⟩
    iterate 2
     iterate 1 refine plan_look rfl rfl (fun w0 hS=>(by go_simp;try rfl)) ?_
     simp only[Act.put,nAq,nBq,nCq]
    refine AW rfl ?_;go_wp2_with fail;refine(KD.out _ (((Ch.refl _ w).alloc _).drew)).mono ?_;rintro e w2 ⟨rfl,a2⟩;have H2:=(hIq (a2.row (AM (heap_alloc_new w (.cells K 47))) id) ((((Ch.refl (fun _=>False) w).alloc (.cells K 47)).drew).trans a2 (fun _=>fEq)))
    clear a2;dsimp only;go_step;refine wpList_nil ?_;change _∧_;refine⟨H2.out,?_⟩
    iterate 4
     refine plan_look rfl rfl (fun w0 hS=>(by clear hS;go_simp;try rfl)) ?_;simp only[Act.put,nAq,nBq,nCq]
    refine Ay (cur:=K) (t:=47) (fr:=(0,0)) rfl rfl 47 (.tmp 6) rfl w.heap.size 0 32 rfl (fun w0 hS=>hS.1) Tryz.underlying47 rfl Ab (by rw[HK.out];omega) K (by simp[←HK.out]) ?_;simp only[Act.put,nAq,nBq,nCq];refine AW rfl ?_;go_wp2_with fail;refine(HY.out _ H2.out.2).mono ?_;rintro e w3 ⟨rfl,a3⟩;have H3:=(hIq (a3.row H2.out.1 id) (H2.out.2.trans a3 (fun _=>fEq)))
    clear a3;dsimp only;go_step;refine wpList_nil ?_;change _∧_;refine⟨H3.out,?_⟩;refine plan_look (v:=.bool false) rfl rfl (fun w0 hS=>(by have hq:=HQ.out w0;rw[run_eql_struct] at hq;clear hS;go_simp)) ?_;simp only[Act.put,nAq,nBq,nCq]
    iterate 2
     refine plan_look (v:=.bool false) rfl rfl (fun w0 hS=>(by clear hS;go_simp;try rfl)) ?_;simp only[Act.put,nAq,nBq,nCq]
    iterate 6
     refine BN rfl (by rfl) ?_;simp only[Act.put,nAq,nBq,nCq]
    refine BN rfl (by rfl) ?_;simp only[Act.put,nAq,nBq,nCq];refine plan_look (v:=.bool false) rfl rfl (fun w0 hS=>(by clear hS;go_simp;try rfl)) ?_;simp only[Act.put,nAq,nBq,nCq];refine AZ ?_;simp only[List.drop_succ_cons,List.drop_zero];go_wp2;refine NoPanic.normal ?_;go_wp2;go_ret;exact⟨rfl,H3.out.2⟩
   | true =>
    go_enter Tryz.func258,Tryz.ntmps258;go_wp2;refine AP (fun wz=>wz.heap[w.heap.size]?=some (.cells K 47 (0,0))∧AN w wz) 20 [(0,false),(1,false),(2,true),(3,false),(4,false),(5,false),(6,false),(8,false),(7,true),(9,false),(10,false),(11,false),(12,false),(13,false),(16,false),(17,false),(14,true),(15,true),(18,false),(19,false)] (by kernel_rfl) (by kernel_rfl) ?_ ?_
    · exact⟨AM (heap_alloc_new _ _),((Ch.refl _ w).alloc _).drew⟩
    iterate 2
     iterate 1 refine plan_look rfl rfl (fun w0 hS=>(by go_simp;try rfl)) ?_
     simp only[Act.put,nAq,nBq,nCq]
    refine AW rfl ?_;go_wp2_with fail;refine(KD.out _ (((Ch.refl _ w).alloc _).drew)).mono ?_;rintro e w2 ⟨rfl,a2⟩;have H2:=(hIq (a2.row (AM (heap_alloc_new w (.cells K 47))) id) ((((Ch.refl (fun _=>False) w).alloc (.cells K 47)).drew).trans a2 (fun _=>fEq)))
    clear a2;dsimp only;go_step;refine wpList_nil ?_;change _∧_;refine⟨H2.out,?_⟩
    iterate 4
     refine plan_look rfl rfl (fun w0 hS=>(by clear hS;go_simp;try rfl)) ?_;simp only[Act.put,nAq,nBq,nCq]
    refine Ay (cur:=K) (t:=47) (fr:=(0,0)) rfl rfl 47 (.tmp 6) rfl w.heap.size 0 32 rfl (fun w0 hS=>hS.1) Tryz.underlying47 rfl Ab (by rw[HK.out];omega) K (by simp[←HK.out]) ?_;simp only[Act.put,nAq,nBq,nCq];refine AW rfl ?_;go_wp2_with fail;refine(HY.out _ H2.out.2).mono ?_;rintro e w3 ⟨rfl,a3⟩;have H3:=(hIq (a3.row H2.out.1 id) (H2.out.2.trans a3 (fun _=>fEq)))
    clear a3;dsimp only;go_step;refine wpList_nil ?_;change _∧_;refine⟨H3.out,?_⟩;refine plan_look (v:=.bool true) rfl rfl (fun w0 hS=>(by have hq:=HQ.out w0;rw[run_eql_struct] at hq;clear hS;go_simp)) ?_;simp only[Act.put,nAq,nBq,nCq]
    iterate 2
     refine plan_look (v:=.bool true) rfl rfl (fun w0 hS=>(by clear hS;go_simp;try rfl)) ?_;simp only[Act.put,nAq,nBq,nCq]
    obtain⟨same,hsame⟩:∃x,x=decide (vl=bs):=⟨_,rfl⟩
    have HSM:=Lib.hid hsame;clear hsame
    iterate 3
     refine plan_look rfl rfl (fun w0 hS=>(by clear hS;go_simp;try rfl)) ?_;simp only[Act.put,nAq,nBq,nCq]
    refine DW rfl rfl 29 9 (.tmp 25) (.string (GF bs)) rfl (.slice ao bs.length cap) rfl (fun w0 hS=>Cb (HB.out.Ae hS.2 (fun _ _ h=>h))) ?_;simp only[Act.put,nAq,nBq,nCq];refine AW rfl ?_;go_wp2_with fail;refine(HV.out _ H3.out.2).mono ?_;rintro e w4 ⟨v4,rfl,hb4,_,a4⟩;have H4:=(hIq (a4.row H3.out.1 id) (H3.out.2.trans a4 (fun _=>fEq)))
    have hc4:=Cb hb4;clear a4 hb4;dsimp only;go_step;refine wpList_nil ?_;change _∧_;refine⟨H4.out,?_⟩;refine AW rfl ?_;go_wp2;refine⟨H4.out,?_⟩;refine plan_look (v:=.bool same) rfl rfl (fun w0 hS=>(by clear hS;go_simp;rw[HSM.out];exact ME vl bs)) ?_;simp only[Act.put,nAq,nBq,nCq];refine plan_look (v:=.bool same) rfl rfl (fun w0 hS=>(by clear hS;go_simp;try rfl)) ?_;simp only[Act.put,nAq,nBq,nCq];refine AZ ?_;simp only[List.drop_succ_cons,List.drop_zero];go_wp2;refine NoPanic.normal ?_;go_wp2;go_ret;refine⟨?_,H4.out.2⟩;rw[HSM.out];rfl
 obtain⟨kd,hkd'⟩:∃x,x=(nd σ e1).kind:=⟨_,rfl⟩
 rw[←hkd'] at hkd hk1 ⊢;have KD:=Lib.hid hkd;have e1':((kd:Int) == 1)=false:=by simpa using (show ¬(kd:Int)=1 by omega)
 have e2':decide ((kd:Int)=1)=false:=decide_eq_false (by omega);rw[decide_eq_false hk1,Bool.false_and];clear hky hvl hkd hKs hb hK hkd' h GG hk1;subst hvv;go_enter Tryz.func258,Tryz.ntmps258;go_wp2;refine AP (fun wz=>wz.heap[w.heap.size]?=some (.cells K 47 (0,0))∧AN w wz) 20 [(0,false),(1,false),(2,true),(3,false),(4,false),(5,false),(6,false),(7,false),(8,false),(9,false),(10,false),(11,false),(12,false),(13,false),(14,false),(15,false),(16,false),(17,false),(18,false),(19,false)] (by kernel_rfl) (by kernel_rfl) ?_ ?_
 · exact⟨AM (heap_alloc_new _ _),((Ch.refl _ w).alloc _).drew⟩
 iterate 2
  iterate 1 refine plan_look rfl rfl (fun w0 hS=>(by go_simp;try rfl)) ?_
  simp only[Act.put,nAq,nBq,nCq]
 refine AW rfl ?_;go_wp2_with fail;refine(KD.out _ (((Ch.refl _ w).alloc _).drew)).mono ?_;rintro e w2 ⟨rfl,a2⟩;have H2:=(hIq (a2.row (AM (heap_alloc_new w (.cells K 47))) id) ((((Ch.refl (fun _=>False) w).alloc (.cells K 47)).drew).trans a2 (fun _=>fEq)))
 clear a2;dsimp only;go_step;refine wpList_nil ?_;change _∧_;refine⟨H2.out,?_⟩
 iterate 2
  refine plan_look (v:=.bool false) rfl rfl (fun w0 hS=>(by clear hS;go_simp;try rfl)) ?_;simp only[Act.put,nAq,nBq,nCq]
 iterate 5
  refine BN rfl (by rfl) ?_;simp only[Act.put,nAq,nBq,nCq]
 iterate 2
  refine plan_look (v:=.bool false) rfl rfl (fun w0 hS=>(by clear hS;go_simp;try rfl)) ?_;simp only[Act.put,nAq,nBq,nCq]
 iterate 7
  refine BN rfl (by rfl) ?_;simp only[Act.put,nAq,nBq,nCq]
 refine plan_look (v:=.bool false) rfl rfl (fun w0 hS=>(by clear hS;go_simp;try rfl)) ?_;simp only[Act.put,nAq,nBq,nCq];refine AZ ?_;simp only[List.drop_succ_cons,List.drop_zero];go_wp2;refine NoPanic.normal ?_;go_wp2;go_ret;exact⟨rfl,H2.out.2⟩
end
end Go.Proofs.YtngbdbpofifimaaGreat.Store

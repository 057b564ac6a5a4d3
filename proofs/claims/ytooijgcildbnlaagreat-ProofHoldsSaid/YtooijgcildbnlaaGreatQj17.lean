/- Laws of the layers below. -/
import Derived.Lib.Bytealg
import Derived.Sort.Statements
import Derived.Test.YtooijgcildbnlaaGreatQj15
import Derived.Laws.Externs
import Derived.Sort.Grow
import Derived.ProofKit
import Derived.OpenShut
import Derived.ChangeOld
import Derived.Deep.Slices
set_option maxHeartbeats 3200000
set_option maxRecDepth 100000
set_option linter.unusedVariables false
namespace Go.Proofs.YtooijgcildbnlaaGreat.Store
open Go.RowKit Go.Proofs.YtooijgcildbnlaaGreat.ShaW Go.Proofs.YtooijgcildbnlaaGreat.Path
theorem S9 {a b:UInt8}:a<b↔a.toNat<b.toNat:=UInt8.lt_iff_toNat_lt
theorem WR {a b:UInt8}:a=b↔a.toNat=b.toNat:=UInt8.toNat_inj.symm
theorem IW (n j:Nat) (hj:j<8):n / 2 ^ (7-j)=2*(n / 2 ^ (8-j))+n / 2 ^ (7-j) % 2:=by
 have:n / 2 ^ (8-j)=n / 2 ^ (7-j) / 2:=by
  rw[Nat.div_div_eq_div_mul, ←Nat.pow_succ,Nat.succ_eq_add_one,show 7-j+1=8-j by omega]
 omega
theorem Mw (x y:UInt8):∀j,j≤8→(∀i,i<j→CJ x i=CJ y i)→x.toNat / 2 ^ (8-j)=y.toNat / 2 ^ (8-j)
 | 0,_,_=>by
  have a:=x.toNat_lt;have b:=y.toNat_lt;rw[Nat.div_eq_of_lt (by simpa using a),Nat.div_eq_of_lt (by simpa using b)]
 | j+1,hj,h=>by
  have ih:=Mw x y j (by omega) (fun i hi=>h i (by omega));have e:=h j (by omega);unfold CJ at e;have a:=IW x.toNat j (by omega);have b:=IW y.toNat j (by omega);rw[show 8-(j+1)=7-j by omega,a,b,ih,e]
theorem U5 (x y:UInt8) (j:Nat) (hj:j<8) (h:∀i,i<j→CJ x i=CJ y i) (hx:CJ x j=0) (hy:CJ y j=1):x<y:=by
 rw[S9];have e:=Mw x y j (by omega) h;have a:=IW x.toNat j hj;have b:=IW y.toNat j hj;unfold CJ at hx hy;rw[hx,e] at a;rw[hy] at b;rcases Nat.lt_or_ge x.toNat y.toNat with g|g
 · exact g
 have:=Nat.div_le_div_right (c:=2 ^ (7-j)) g;omega
theorem UO (x y:UInt8) (h:∀i,i<8→CJ x i=CJ y i):x=y:=by
 rw[WR];have e:=Mw x y 8 (Nat.le_refl _) h;simpa using e
theorem G8 (x:UInt8) (l:List UInt8) {d:Nat} (h:d<8):AS (x::l) d=CJ x d:=by
 unfold AS;rw[Nat.div_eq_of_lt h,Nat.mod_eq_of_lt h];rfl
theorem MO (x:UInt8) (l:List UInt8) (d:Nat):AS (x::l) (d+8)=AS l d:=by
 unfold AS;rw[Nat.add_div_right _ (by omega),Nat.add_mod_right];rfl
theorem Kl:∀(a b:List UInt8) (d:Nat),a.length=b.length→d<8*a.length→Pre a b d→AS a d=0→AS b d=1→Lib.compareBytes a b = -1
 | [],_,d,_,h,_,_,_=>absurd h (by simp)
 | _::_,[],_,h,_,_,_,_=>absurd h (by simp)
 | x::l,y::m,d,hl,hd,hp,ha,hb=>by
  by_cases h8:d<8
  · rw[G8 x l h8] at ha
    rw[G8 y m h8] at hb;have:=U5 x y d h8 (fun i hi=>by have:=hp i hi;rwa [G8 x l (by omega),G8 y m (by omega)] at this) ha hb;unfold Lib.compareBytes;rw[if_pos this]
  obtain⟨e,rfl⟩:∃e,d=e+8:=⟨d-8,by omega⟩
  rw[MO] at ha hb;have hxy:=UO x y (fun i hi=>by have:=hp i (by omega);rwa [G8 x l hi,G8 y m hi] at this);subst hxy;unfold Lib.compareBytes;rw[if_neg (UInt8.lt_irrefl x),if_neg (UInt8.lt_irrefl x)];refine Kl l m e (by simpa using hl) (by simp at hd;omega) (fun i hi=>?_) ha hb;have:=hp (i+8) (by omega)
  rwa [MO,MO] at this
theorem Ju:∀a:List UInt8,Lib.compareBytes a a=0
 | []=>rfl
 | x::l=>by
  unfold Lib.compareBytes;rw[if_neg (UInt8.lt_irrefl x),if_neg (UInt8.lt_irrefl x)];exact Ju l
theorem IQ:∀a b c:List UInt8,Lib.compareBytes a b<0→Lib.compareBytes b c<0→Lib.compareBytes a c<0
 | [],[],c,h,_=>absurd h (by decide)
 | [],_::_,[],_,h=>absurd h (by simp[Lib.compareBytes])
 | [],_::_,_::_,_,_=>by simp[Lib.compareBytes]
 | _::_,[],_,h,_=>absurd h (by simp[Lib.compareBytes])
 | _::_,_::_,[],_,h=>absurd h (by simp[Lib.compareBytes])
 | x::a,y::b,z::c,h1,h2=>by
  have ih:=IQ a b c;unfold Lib.compareBytes at h1 h2 ⊢;simp only[S9] at h1 h2 ⊢;by_cases e1:x.toNat<y.toNat
  · by_cases e2:y.toNat<z.toNat
    · rw[if_pos (by omega)];decide
    rw[if_neg e2] at h2;by_cases e3:z.toNat<y.toNat
    · rw[if_pos e3] at h2;exact absurd h2 (by decide)
    rw[if_pos (by omega)];decide
  rw[if_neg e1] at h1;by_cases e0:y.toNat<x.toNat
  · rw[if_pos e0] at h1;exact absurd h1 (by decide)
  rw[if_neg e0] at h1;by_cases e2:y.toNat<z.toNat
  · rw[if_pos (by omega)];decide
  rw[if_neg e2] at h2;by_cases e3:z.toNat<y.toNat
  · rw[if_pos e3] at h2;exact absurd h2 (by decide)
  rw[if_neg e3] at h2;rw[if_neg (by omega),if_neg (by omega)];exact ih h1 h2
theorem IU:∀a b c:List UInt8,¬Lib.compareBytes a b<0→¬Lib.compareBytes b c<0→¬Lib.compareBytes a c<0
 | [],[],c,_,h=>h
 | [],_::_,_,h,_=>absurd (by simp[Lib.compareBytes]) h
 | _::_,[],[],_,_=>by simp[Lib.compareBytes]
 | _::_,[],_::_,_,h=>absurd (by simp[Lib.compareBytes]) h
 | _::_,_::_,[],_,_=>by simp[Lib.compareBytes]
 | x::a,y::b,z::c,h1,h2=>by
  have ih:=IU a b c;unfold Lib.compareBytes at h1 h2 ⊢;simp only[S9] at h1 h2 ⊢;by_cases e1:x.toNat<y.toNat
  · rw[if_pos e1] at h1;exact absurd (by decide) h1
  rw[if_neg e1] at h1;by_cases e2:y.toNat<z.toNat
  · rw[if_pos e2] at h2;exact absurd (by decide) h2
  rw[if_neg e2] at h2;rw[if_neg (by omega)];by_cases e0:y.toNat<x.toNat
  · rw[if_pos (by omega)];decide
  rw[if_neg e0] at h1;by_cases e3:z.toNat<y.toNat
  · rw[if_pos (by omega)];decide
  rw[if_neg e3] at h2;rw[if_neg (by omega)];exact ih h1 h2
def Dm (L:AQ):Prop:=L.Pairwise fun p q=>¬Lib.compareBytes q.1 p.1<0
theorem Dm.take {L:AQ} (h:Dm L) (n:Nat):Dm (L.take n):=h.sublist (List.take_sublist n L)
theorem Dm.drop {L:AQ} (h:Dm L) (n:Nat):Dm (L.drop n):=h.sublist (List.drop_sublist n L)
theorem PY {L:AQ} {k:List UInt8} {d:Nat} (hO:L.Ok k d) (hd:d<256) (hr:Dm L) {i j:Nat} {p q:List UInt8×List UInt8} (hij:i≤j) (hp:L[i]?=some p) (hq:L[j]?=some q) (h1:AS p.1 d=1):AS q.1 d=1:=by
 rcases Nat.lt_or_ge i j with h|h
 · rcases Aq q.1 d with h0|h0
   · exfalso
     have mp:=List.mem_of_getElem? hp;have mq:=List.mem_of_getElem? hq;have hc:=Kl q.1 p.1 d (by rw[hO.len p mp,hO.len q mq]) (by rw[hO.len q mq];omega) ((hO.pre q mq).trans (hO.pre p mp).symm) h0 h1;obtain⟨hil,rfl⟩:=List.getElem?_eq_some_iff.1 hp;obtain⟨hjl,rfl⟩:=List.getElem?_eq_some_iff.1 hq;have:=List.pairwise_iff_getElem.1 hr i j hil hjl h;rw[hc] at this;exact this (by decide)
   exact h0
 have:i=j:=by omega
 subst this;rw[hp] at hq;cases hq;exact h1
theorem Ky {L:AQ} {k:List UInt8} {d n:Nat} (hO:L.Ok k d) (hd:d<256) (hr:Dm L) (h0:∀i p,i<n→L[i]?=some p→AS p.1 d=0) (h1:∀p,L[n]?=some p→AS p.1 d=1):sideE 0 d L=L.take n∧sideE 1 d L=L.drop n:=by
 have a0:∀p∈L.take n,AS p.1 d=0:=fun p hp=>by
  obtain⟨i,hi⟩:=List.mem_iff_getElem?.1 hp;rw[List.getElem?_take] at hi;split at hi
  · rename_i hin
    exact h0 i p hin hi
  cases hi
 have a1:∀p∈L.drop n,AS p.1 d=1:=fun p hp=>by
  obtain⟨i,hi⟩:=List.mem_iff_getElem?.1 hp;rw[List.getElem?_drop] at hi;have hnl:n<L.length:=by have:=(List.getElem?_eq_some_iff.1 hi).1;omega
  exact PY hO hd hr (Nat.le_add_right n i) (List.getElem?_eq_getElem hnl) hi (h1 _ (List.getElem?_eq_getElem hnl))
 have hs:=List.take_append_drop n L;constructor
 · unfold sideE
   conv=>lhs;rw[←hs,List.filter_append]
   rw[List.filter_eq_self.2 (fun p hp=>by simp[a0 p hp]),List.filter_eq_nil_iff.2 (fun p hp=>by simp[a1 p hp]),List.append_nil]
 unfold sideE
 conv=>lhs;rw[←hs,List.filter_append]
 rw[List.filter_eq_nil_iff.2 (fun p hp=>by simp[a0 p hp]),List.filter_eq_self.2 (fun p hp=>by simp[a1 p hp]),List.nil_append]
theorem Tr.Ee:∀t:Tr,t.dig.length=32
 | .nil=>Tag.AV _ _
 | .leaf _ _=>Tag.AV _ _
 | .node _ _=>Tag.AV _ _
end Go.Proofs.YtooijgcildbnlaaGreat.Store
namespace Go.Proofs.YtooijgcildbnlaaGreat.Path
open Go.RowKit
def Wh (x:UInt8) (An:Int):UInt8:=if An≤0 then 255 else if An<8 then UInt8.ofNat (x.toNat / 2 ^ (8-An.toNat)*2 ^ (8-An.toNat)+(2 ^ (8-An.toNat)-1)) else x
def OL (d:Int):Int→List UInt8→List UInt8
 | _,[] => []
 | i,x::l=>Wh x (d-8*i)::OL d (i+1) l
def last (k:List UInt8) (d:Int):List UInt8:=OL d 0 k
def X9 (k:List UInt8) (d:Int) (i:Nat):List UInt8:=(last k d).take i++k.drop i
end Go.Proofs.YtooijgcildbnlaaGreat.Path
namespace Go.Proofs.YtooijgcildbnlaaGreat.Store
open Go.RowKit Go.Proofs.YtooijgcildbnlaaGreat.ShaW Go.Proofs.YtooijgcildbnlaaGreat.Path
def Tr.ents:Tr→AQ
 | .nil => []
 | .leaf k v => [(k,v)]
 | .node l r=>l.ents++r.ents
theorem Tr.D7:∀t:Tr,t.ents.length=t.leaves
 | .nil=>rfl
 | .leaf _ _=>rfl
 | .node l r=>by
  show(l.ents++r.ents).length=l.leaves+r.leaves
  rw[List.length_append,l.D7,r.D7]
def Ltk (p q:List UInt8×List UInt8):Prop:=Lib.compareBytes p.1 q.1<0
theorem Rep.Ng {f:View} (hz:f 0=none) {d:Nat} {t:Tr} (hr:Rep f 0 d t):t=.nil:=by
 cases hr with
 | nil=>rfl
 | leaf hn _=>rw[hz] at hn;cases hn
 | node hn _ _ _ _=>rw[hz] at hn;cases hn
theorem Rep.ents {f:View} (hf:Fit f) {h:Int} {d:Nat} {t:Tr} (hr:Rep f h d t) :
 (∀e∈t.ents,e.1.length=32∧e.2.length≤1024)∧(∀n,f h=some n→∀e∈t.ents,(n.kind=2→Pre e.1 n.key d)∧(n.kind≠2→e.1=n.key))∧t.ents.Pairwise Ltk:=by
 induction hr with
 | nil=>exact⟨fun e he=>(by cases he),fun n hn=>(by rw[hf.zero] at hn;cases hn),List.Pairwise.nil⟩
 | @leaf h d n hn hk =>
  obtain⟨_,ho⟩:=hf.leaf hn (by omega);refine⟨fun e he=>?_,fun m hm e he=>?_,List.pairwise_singleton _ _⟩
  · obtain rfl:=List.mem_singleton.1 he
    exact⟨ho.key,ho.value⟩
  obtain rfl:=List.mem_singleton.1 he;rw[hn] at hm;cases hm;exact⟨fun h2=>absurd h2 (by omega),fun _=>rfl⟩
 | @node h d n l r hn hk hd hl hr ihl ihr =>
  obtain⟨al,bl,cl⟩:=ihl;obtain⟨ar,br,cr⟩:=ihr;obtain⟨p1,p2⟩:=hf.pre hn hk hd (k:=n.key) (fun _ _=>rfl);obtain⟨q1,q2⟩:=hf.kids hn hk;have hd1:=(hf.inner hn hk).d1;have hlt:d<256:=by omega
  have left:∀e∈l.ents,Pre e.1 n.key d∧AS e.1 d=0:=fun e he=>by
   rcases hl.live with h0|⟨y,hy⟩
   · rw[h0] at hl;rw[hl.Ng hf.zero] at he;cases he
   have hb:AS y.key d=0:=JJ hlt (by have:=(q1 y hy).2;rw[hd] at this;exact this);by_cases h2:y.kind=2
   · have hp:=(bl y hy e he).1 h2
     exact⟨(hp.less (Nat.le_succ d)).trans (p1 y hy),(hp d (Nat.lt_succ_self d)).trans hb⟩
   rw[(bl y hy e he).2 h2];exact⟨p1 y hy,hb⟩
  have right:∀e∈r.ents,Pre e.1 n.key d∧AS e.1 d=1:=fun e he=>by
   rcases hr.live with h0|⟨y,hy⟩
   · rw[h0] at hr;rw[hr.Ng hf.zero] at he;cases he
   have hb:AS y.key d=1:=JJ hlt (by have:=(q2 y hy).2;rw[hd] at this;exact this);by_cases h2:y.kind=2
   · have hp:=(br y hy e he).1 h2
     exact⟨(hp.less (Nat.le_succ d)).trans (p2 y hy),(hp d (Nat.lt_succ_self d)).trans hb⟩
   rw[(br y hy e he).2 h2];exact⟨p2 y hy,hb⟩
  refine⟨fun e he=>(List.mem_append.1 he).elim (al e) (ar e),fun m hm e he=>?_,List.pairwise_append.2 ⟨cl,cr,fun a ha b hb=>?_⟩⟩
  · rw[hn] at hm
    cases hm;exact⟨fun _=>(List.mem_append.1 he).elim (fun h=>(left e h).1) (fun h=>(right e h).1),fun h2=>absurd hk h2⟩
  obtain⟨a1,a2⟩:=left a ha;obtain⟨b1,b2⟩:=right b hb;unfold Ltk;rw[Kl a.1 b.1 d (by rw[(al a ha).1,(ar b hb).1]) (by rw[(al a ha).1];omega) (a1.trans b1.symm) a2 b2]
  decide
theorem Rep.slot {f:View} {h:Int} {d:Nat} {t:Tr} (hr:Rep f h d t):∀e∈t.ents,∃k n,f k=some n∧n.key=e.1:=by
 induction hr with
 | nil=>exact fun e he=>by cases he
 | leaf hn hk =>
  intro e he;obtain rfl:=List.mem_singleton.1 he;exact⟨_,_,hn,rfl⟩
 | node _ _ _ _ _ ihl ihr=>exact fun e he=>(List.mem_append.1 he).elim (ihl e) (ihr e)
theorem Uh {σ:AD Nd} (G:Good σ) {h:Int} {d:Nat} {t:Tr} (hr:Rep (sk σ) h d t):t.ents.length≤σ.slots.length:=by
 have hs:=hr.slot;have hp:=(hr.ents G.fit).2.2
 have hch:∃g:List UInt8×List UInt8→Int,∀e∈t.ents,∃n,sk σ (g e)=some n∧n.key=e.1:=by
  refine⟨fun e=>if he:e∈t.ents then Classical.choose (hs e he) else 0,fun e he=>?_⟩;simp only[dif_pos he];exact Classical.choose_spec (hs e he)
 obtain⟨g,hg⟩:=hch
 have hnd:(t.ents.map (fun e=>(g e).toNat)).Nodup:=by
  rw[List.Nodup,List.pairwise_map];refine hp.imp_of_mem ?_;intro a b ha hb hlt e;obtain⟨n,hn,hnk⟩:=hg a ha;obtain⟨m,hm,hmk⟩:=hg b hb;obtain⟨x,hx,_⟩:=FG hn;obtain⟨y,hy,_⟩:=FG hm;obtain⟨i,hi,_⟩:=AD.Ab hx;obtain⟨j,hj,_⟩:=AD.Ab hy;have:g a=g b:=by omega
  rw[this,hm] at hn;cases hn;unfold Ltk at hlt;rw[←hnk, ←hmk,Ju] at hlt;omega
 have hsub:∀x∈t.ents.map (fun e=>(g e).toNat),x∈List.range' 1 σ.slots.length:=fun x hx=>by
  obtain⟨e,he,rfl⟩:=List.mem_map.1 hx;obtain⟨n,hn,_⟩:=hg e he;obtain⟨y,hy,_⟩:=FG hn;obtain⟨i,hi,_,_,hlt⟩:=AD.Ab hy;simp only[List.mem_range'_1];omega
 have:=CI _ _ hnd hsub;simpa using this
theorem Kz (d:Nat):∀L:AQ,(sideE 0 d L++sideE 1 d L).Perm L
 | []=>.refl _
 | p::L=>by
  have ih:=Kz d L;unfold sideE at ih ⊢;rw[List.filter_cons,List.filter_cons];rcases Aq p.1 d with h|h
  · simp only[h]
    exact ih.cons p
  simp only[h];exact List.perm_middle.trans (ih.cons p)
theorem Iz:∀m,m≤256→∀ {L:AQ} {k:List UInt8},L.Ok k (256-m)→(tree m L).ents.Perm L:=by
 intro m
 induction m with
 | zero =>
  intro _ L k hO
  match L,hO.few with
  | [],_=>exact .refl _
  | [p],_=>exact .refl _
  | _::_::_,hf=>simp at hf
 | succ m ih =>
  intro hm L k hO;by_cases h2:2≤L.length
  · rw[Bg h2]
    obtain⟨k0,o0⟩:=D3 hO 0;obtain⟨k1,o1⟩:=D3 hO 1;rw[show 256-(m+1)+1=256-m by omega,show 256-(m+1)=255-m by omega] at o0 o1;exact((ih (by omega) o0).append (ih (by omega) o1)).trans (Kz _ L)
  match L,h2 with
  | [],_=>exact .refl _
  | [p],_=>exact .refl _
  | _::_::_,h2=>exact absurd (by simp) h2
theorem Db.ents {σ:AD Nd} {root:Int} {L:AQ} (D:Db σ root L):(tree 256 L).ents.Perm L:=Iz 256 (Nat.le_refl _) (k := []) (AQ.Ok.any D.nodup D.len [])
def geK (key:List UInt8) (e:List UInt8×List UInt8):Bool := !decide (Lib.compareBytes e.1 key<0)
def ltK (key:List UInt8) (e:List UInt8×List UInt8):Bool:=decide (Lib.compareBytes e.1 key<0)
def Tr.from (t:Tr) (key:List UInt8):AQ:=t.ents.filter (geK key)
def Tr.ER (t:Tr) (key:List UInt8):Nat:=(t.ents.filter (ltK key)).length
def L6:List UInt8→List UInt8×Bool
 | []=>([],false)
 | x::l=>if (L6 l).2=true then (x::(L6 l).1,true) else if x=255 then (0::(L6 l).1,false) else ((x+1)::(L6 l).1,true)
end Go.Proofs.YtooijgcildbnlaaGreat.Store
namespace Go.Proofs.YtooijgcildbnlaaGreat.ShaW
open Go.RowKit
def Wu (b:List UInt8) (k:Nat):Nat→UInt32
 | 0=>0
 | j+1=>wa (Wu b k j <<< 8) (b.getD (4*k+j) 0).toUInt32
end Go.Proofs.YtooijgcildbnlaaGreat.ShaW
namespace Go.Proofs.YtooijgcildbnlaaGreat.Store
open Go.RowKit Go.Proofs.YtooijgcildbnlaaGreat.ShaW Go.Proofs.YtooijgcildbnlaaGreat.Path
def YP (w0 w:World) (v:Value) (l:List UInt8):Prop:=(∃q qc,v=.slice q l.length qc∧w.ownsRow w0.heap.size 5 1 (.slice q l.length qc) l.length (l.map bv))∧Adds w0 w

end Go.Proofs.YtooijgcildbnlaaGreat.Store
namespace Go.Proofs.YtooijgcildbnlaaGreat
open Go.RowKit
def Wj (l:List (Array Value)):List Value:=l.flatMap Array.toList

end Go.Proofs.YtooijgcildbnlaaGreat
namespace Go.Proofs.YtooijgcildbnlaaGreat.Store
open Go.RowKit Go.Proofs.YtooijgcildbnlaaGreat.ShaW Go.Proofs.YtooijgcildbnlaaGreat.Path
structure Sp where
 kind:Nat
 d:Int
 key:List UInt8
 addr:Value
 value:List UInt8
 left:Int
 right:Int
 own:Int
 sides:Int
namespace Sp
def zero:Sp:=⟨0,0,Nd.z32,.slice none 0 0,[],0,0,0,0⟩
def cells (x:Sp):Array Value:=(.int .u8 (x.kind:Nat)::.int .i64 x.d::(x.key.map bv ++ [x.addr,.int .i64 x.left,.int .i64 x.right,.int .i64 x.own,.int .i64 x.sides])).toArray
structure Ok (x:Sp):Prop where
 key:x.key.length=32
 addr:∃ao len cap,x.addr=.slice ao len cap
 val:x.value.length≤1024
variable {x : Sp}
def entry (x:Sp):Array Value:=(x.key.map bv ++ [x.addr]).toArray
end Sp
structure Rs where
 space:Nat
 spots:List Sp
 free:List Nat
def Rs.sp (ρ:Rs) (h:Int):Sp:=if 1≤h then (match ρ.spots[(h-1).toNat]? with|some x=>if x.kind=0 then Sp.zero else x|none=>Sp.zero) else Sp.zero
def Rs.has (ρ:Rs) (h:Int):Bool:=decide ((ρ.sp h).kind≠0)
def Rs.setAt (ρ:Rs) (m:Nat) (x:Sp):Rs := { ρ with spots:=ρ.spots.set m x }
def WX (s:Nd×Nat) (x:Sp):Prop :=
 (s.2=0∧x=Sp.zero)∨(s.2≠0∧x.kind=s.1.kind∧x.left=s.1.left∧x.right=s.1.right∧x.value=s.1.value∧(s.1.kind=1→x.key=s.1.key)∧(s.1.kind=2→x.d=s.1.depth)∧x.own=s.1.held∧x.own+x.sides=s.2)
structure Lk (σ:AD Nd) (ρ:Rs):Prop where
 space:ρ.space=σ.room
 free:ρ.free=σ.free
 len:ρ.spots.length=σ.slots.length
 slot:∀(m:Nat) s x,σ.slots[m]?=some s→ρ.spots[m]?=some x→WX s x

structure Rs.Xu (ρ:Rs):Prop where
 space:1≤ρ.space∧ρ.space≤65536
 len:ρ.spots.length≤ρ.space
 free:∀n∈ρ.free,1≤n∧n≤ρ.spots.length
 flen:ρ.free.length≤ρ.spots.length
 nums:∀x∈ρ.spots,x.Ok∧(0≤x.own∧x.own≤2147483648)∧(0≤x.sides∧x.sides≤2147483648)
def RAt (w:World) (b:Nat) (F:Nat→Prop) (ρ:Rs):Prop :=
 ρ.Xu∧∃vs vf,w.heap[b]?=some (.cells #[.bool true,.int .i64 (ρ.space:Nat),vs,vf] 272 (0,0)) ∧
  w.ownsRow 0 254 39 vs ρ.spots.length (Wj (ρ.spots.map Sp.cells))∧w.ownsRow 0 3 1 vf ρ.free.length (ints ρ.free) ∧
  (∀x∈ρ.spots,Bytes w x.addr x.value∧∀k,x.addr.ownBlock=some k→F k∧k≠b∧vs.ownBlock≠some k∧vf.ownBlock≠some k) ∧
  F b∧(∀k,vs.ownBlock=some k→F k∧k≠b)∧(∀k,vf.ownBlock=some k→F k∧k≠b∧vs.ownBlock≠some k)∧(∀k,F k→k<w.heap.size)
def V6 (w w':World) (b:Nat) (F:Nat→Prop) (ρ:Rs):Prop:=∃F',RAt w' b F' ρ∧Ch F w w'∧∀k,F' k→F k∨w.heap.size≤k

section
variable {w w' : World} {b : Nat} {F : Nat→Prop} {ρ : Rs}
def Rs.depth (ρ:Rs) (n:Int):Int:=if (ρ.sp n).kind=2 then (ρ.sp n).d else -1
def Rs.BM (ρ:Rs) (n:Int):Int:=if n=0 then 0 else if ρ.has n=false then 7 else if 0<ρ.depth n then 2 else 0
end
section
variable {w w' : World} {b : Nat} {F : Nat→Prop} {ρ : Rs}
def Rs.Yb (ρ:Rs) (n:Int):Bool:=decide (n=0)||(ρ.has n&&decide (0<(ρ.sp n).own))
def Rs.X4 (ρ:Rs):Bool:=decide (ρ.free.length=0)&&decide (ρ.space≤ρ.spots.length)
end
section
variable {w w' : World} {b : Nat} {F : Nat→Prop} {ρ : Rs}
def Sp.RO (x:Sp):Sp := { x with own:=x.own-1,sides:=x.sides+1 }
def Rs.XK (ρ:Rs) (n d:Int):Rs:=match ρ.spots[(n-1).toNat]? with
 | some x=>ρ.setAt (n-1).toNat { x with own:=x.own+d }
 | none=>ρ
def Rs.XJ (ρ:Rs) (n:Int):Int:=if ρ.has n=false then 7 else if 1073741824≤(ρ.sp n).own+(ρ.sp n).sides then 4 else 0
end
def Sp.held (x:Sp):Sp := { x with own:=1 }
def Rs.take (ρ:Rs) (x:Sp):Int×Rs:=match ρ.free.getLast? with
 | some n=>(n, { ρ with spots:=ρ.spots.set (n-1) x.held,free:=ρ.free.dropLast })
 | none=>((ρ.spots.length:Int)+1, { ρ with spots:=ρ.spots ++ [x.held] })

end Go.Proofs.YtooijgcildbnlaaGreat.Store
namespace Go.Proofs.YtooijgcildbnlaaGreat.Path
open Go.RowKit Go.Sort
theorem I3 (a b:ByteArray) (w:World):Calls Tryz.prog 299 #[.string a,.string b] w fun e w'=>e=.returned (.int .i64 (Lib.compareBytes a.data.toList b.data.toList))∧w=w':=by
 go_enter Tryz.func299,Tryz.ntmps299;go_wp2;rw[run_callFunc_extern Tryz.func333 (by kernel_rfl) (by kernel_rfl) (by kernel_rfl) (e:=Extern.BytealgCompare.compare) (by kernel_rfl),Lib.run_compareString];simp only[Result.andThen];rw[Oper.upon_value];go_wp2;go_ret;exact⟨rfl,rfl⟩
theorem LJ (a b:ByteArray) (w:World):Calls Tryz.prog 282 #[.string a,.string b] w fun e w'=>e=.returned (.int .i64 (Lib.compareBytes a.data.toList b.data.toList))∧w=w':=by
 have h:=I3 a b w;generalize Lib.compareBytes a.data.toList b.data.toList=r at h ⊢;go_enter Tryz.func282,Tryz.ntmps282;go_wp2_with fail;refine h.mono ?_;rintro e w1 ⟨rfl,rfl⟩;go_wp2;go_ret;exact⟨rfl,rfl⟩
def De (x:List UInt8):List Int:=x.map fun b=>(b.toNat:Int)
theorem Kw (x:List UInt8):(strOfNums (De x)).data.toList=x:=by
 rw[strOfNums_data];unfold De;rw[List.map_map]
 conv=>rhs;rw[←List.map_id x]
 refine List.map_congr_left fun b _=>?_
 simp
theorem LD {w:World} {g1 g2 c1 c2:Nat} {t1 t2:TypeId} {f1 f2:Nat×Nat} (x y:List UInt8) (hx:w.heap[g1]?=some (.cells (AM x) t1 f1)) (hy:w.heap[g2]?=some (.cells (AM y) t2 f2)) :
 Calls Tryz.prog 231 #[.slice (some ⟨g1,0,none⟩) x.length c1,.slice (some ⟨g2,0,none⟩) y.length c2] w fun e w'=>e=.returned (.int .i64 (Lib.compareBytes x y))∧w=w':=by
 have get:∀(z:List UInt8) (i:Nat),i<z.length→(AM z)[i]?=some (.int .u8 ((De z).getD i 0)):=fun z i hi=>by
  rw[EB hi];simp[De,bv,hi]
 have r1:(convert 73 9 (.slice (some ⟨g1,0,none⟩) x.length c1)).run Tryz.prog w=.ok (.string (strOfNums (De x))) w :=
  run_convert_bytes_arg w _ _ Tryz.underlying73 Tryz.underlying5 g1 0 x.length c1 (De x) (by simp[De]) (fun i hi=>by rw[Nat.zero_add];exact AH hx (get x i hi)) _ Tryz.underlying9
 have r2:(convert 73 9 (.slice (some ⟨g2,0,none⟩) y.length c2)).run Tryz.prog w=.ok (.string (strOfNums (De y))) w :=
  run_convert_bytes_arg w _ _ Tryz.underlying73 Tryz.underlying5 g2 0 y.length c2 (De y) (by simp[De]) (fun i hi=>by rw[Nat.zero_add];exact AH hy (get y i hi)) _ Tryz.underlying9
 have h:=LJ (strOfNums (De x)) (strOfNums (De y)) w;rw[Kw,Kw] at h;generalize Lib.compareBytes x y=r at h ⊢;generalize strOfNums (De x)=s1 at r1 h;generalize strOfNums (De y)=s2 at r2 h;clear get hx hy;go_enter Tryz.func231,Tryz.ntmps231;go_wp2_with fail;refine h.mono ?_;rintro e w1 ⟨rfl,rfl⟩;go_wp2;go_ret;exact⟨rfl,rfl⟩
theorem PL (a b:List UInt8) (ha:a.length=32) (hb:b.length=32) (w:World) :
 Calls Tryz.prog 159 #[.agg (AM a),.agg (AM b)] w fun e w'=>e=.returned (.int .i64 (Lib.compareBytes a b))∧∃q os,w'=grow (w.drewN q) os:=by
 obtain⟨A,hA⟩:∃A,A=AM a:=⟨_,rfl⟩
 obtain⟨B,hB⟩:∃B,B=AM b:=⟨_,rfl⟩
 have g1:((w.alloc (.cells A 24)).alloc (.cells B 24)).drew.heap[w.heap.size]?=some (.cells A 24 (0,0)):=AP (AJ (heap_alloc_new _ _) _)
 have g2:((w.alloc (.cells A 24)).alloc (.cells B 24)).drew.heap[w.heap.size+1]?=some (.cells B 24 (0,0)):=by
  have:=heap_alloc_new (w.alloc (.cells A 24)) (.cells B 24);exact AP (by simpa using this)
 have h:=LD (c1:=32) (c2:=32) a b (by rw[←hA];exact g1) (by rw[←hB];exact g2);rw[ha,hb] at h;rw[←hA, ←hB];have hs0:∀w0:World,(Instr.sliceAt 24 (.pointer (some ⟨w.heap.size,0,none⟩)) none none none).run Tryz.prog w0=.ok (.slice (some ⟨w.heap.size,0,none⟩) 32 32) w0:=fun w0=>Ca w0 24 32 (by kernel_rfl) (by kernel_rfl) (by kernel_rfl) _ _
 have hs1:∀w0:World,(Instr.sliceAt 24 (.pointer (some ⟨w.heap.size+1,0,none⟩)) none none none).run Tryz.prog w0=.ok (.slice (some ⟨w.heap.size+1,0,none⟩) 32 32) w0:=fun w0=>Ca w0 24 32 (by kernel_rfl) (by kernel_rfl) (by kernel_rfl) _ _
 generalize Lib.compareBytes a b=r at h ⊢;have H:=Lib.hid h;clear g1 g2 hA hB h;go_enter Tryz.func159,Tryz.ntmps159;go_wp2;refine AO (fun w0=>w0=((w.alloc (.cells A 24)).alloc (.cells B 24)).drew) 2 [(0,false),(1,false)] (by kernel_rfl) (by kernel_rfl) rfl ?_
 iterate 2 refine plan_look rfl rfl (fun w0 hS=>(by subst hS;go_simp;try rfl)) ?_
 refine Ad ?_;simp only[List.drop_succ_cons,List.drop_zero,Act.put,List.setIfInBounds_toArray,List.set_cons_succ,List.set_cons_zero];go_wp2_with fail;refine H.out.mono ?_;rintro e w1 ⟨rfl,rfl⟩;go_wp2;refine NoPanic.normal ?_;go_wp2;go_ret;exact⟨rfl,1, #[.cells A 24,.cells B 24],by rw[alloc_eq_grow,alloc_eq_grow,grow_grow];rfl⟩
end Go.Proofs.YtooijgcildbnlaaGreat.Path
namespace Go.Proofs.YtooijgcildbnlaaGreat.BE
open Go.RowKit Go.Proofs.YtooijgcildbnlaaGreat.ShaW Go.Proofs.YtooijgcildbnlaaGreat.Path Go.Proofs.YtooijgcildbnlaaGreat.Store
theorem JD {P:Program} {w:World} {ops:Array Oper} {rest:List Oper} {o:Oper} {a:Act} {Q:Exit→Act→World→Prop} (hgd:o.guard=none) (t k:Nat) (x:Operand) (ho:o.op=.build t #[(k,x)]) (vx:Value) (hx:a.eval x=vx)
 (cells:Array Value) (hf:P.built t [(k,vx)]=some cells) (h:wpList P ops Q rest (a.put o.dst (.agg cells)) w):wpList P ops Q (o::rest) a w :=
 wpList_build_is hgd t #[(k,x)] ho cells (by simpa[hx] using hf) h
end Go.Proofs.YtooijgcildbnlaaGreat.BE
namespace Go.Proofs.YtooijgcildbnlaaGreat
open Go.RowKit Go.Deep Go.ChangeShapes Go.WideShapes Go.ChangeAt
section
variable {H : Type} {enc : TypeId×Value→H} {W : World} {base : Nat} {held : Bool} {n : Nat}
theorem JA (w:World) (a:Addr) (h:a.spot.isSome=true):w.cell? a=none:=by
 unfold World.cell?;split
 · rw[if_pos h]
 rfl
theorem Kj:Tryz.prog.cellsOf 5=1:=by kernel_rfl
theorem QT:Tryz.prog.cellsOf 3=1:=by kernel_rfl
theorem JO:Tryz.prog.cellsOf 73=1:=by kernel_rfl
theorem Lj {sp:Nat→Bool} {v:Value} {x:DataW H×List MemPlace} (h:DataW.trod enc Tryz.prog W base sp held n 5 [v]=some x):∃b:UInt8,v=bv b:=by
 obtain⟨m,e,_,hw⟩:=DataW.trod_int Tryz.underlying5 h;have hb:=bounds_u8 hw;refine⟨UInt8.ofNat m.toNat,?_⟩;cases e;have:(UInt8.ofNat m.toNat).toNat=m.toNat:=by simp;omega
 unfold bv;rw[this]
 congr 1
 omega
theorem GA {cs:List Value} {x:DataW H×List MemPlace} (h:DataW.trod enc Tryz.prog W base (fun _=>true) held n 73 cs=some x) :
 ∃v bs,cs = [v]∧Bytes W v bs∧(bs ≠ []→∀k,v.ownBlock=some k→k<W.heap.size):=by
 rcases open_slice1 Tryz.underlying73 Kj h with⟨rfl,_⟩|⟨a,len,cap,m,n',V,D,Pl,rfl,hb,hl,hm,hmm,hx,hV⟩
 · exact⟨_,[],rfl,Bytes.nil W,fun h=>absurd rfl h⟩
 simp only[if_true] at hmm;subst hmm;have hby:∀i,i<m→∃b:UInt8,V i=bv b:=fun i hi=>Lj (hV i hi).2
 obtain⟨B,hB⟩:∃B:Nat→UInt8,∀i,i<m→V i=bv (B i):=by
  refine⟨fun i=>if hi:i<m then Classical.choose (hby i hi) else 0,fun i hi=>?_⟩;simp only[dif_pos hi];exact Classical.choose_spec (hby i hi)
 have hlen:((List.range len).map B).length=len:=by simp
 have hsp:0<len→∃g off,a=⟨g,off,none⟩:=fun h0=>by
  obtain⟨g,off,spot⟩:=a;cases spot with
  | none=>exact⟨g,off,rfl⟩
  | some s =>
   have k0:=(hV 0 (by omega)).1;rw[JA _ _ rfl] at k0;cases k0
 refine⟨_,(List.range len).map B,rfl,⟨some a,m,by rw[hlen],by rw[hlen];exact hl,hm,fun j y hj=>?_⟩,fun hne k hk=>?_⟩
 · have hjl:j<len:=by
    have:=(List.getElem?_eq_some_iff.1 hj).1;simpa using this
   obtain⟨g,off,rfl⟩:=hsp (by omega);refine⟨g,off,rfl,?_⟩;have hc:=(hV j (by omega)).1;rw[hB j (by omega)] at hc;have hyj:y=B j:=by simp[hjl] at hj;exact hj.symm
   rw[hyj];simpa[add_plain] using hc
 have h0:0<len:=by
  cases len with
  | zero=>exact absurd rfl hne
  | succ l=>omega
 have hc:=(hV 0 (by omega)).1;obtain⟨g,off,rfl⟩:=hsp h0;cases hk;have:=KE hc;simpa[add_plain] using this
theorem QE:Tryz.prog.cellsOf 24=32:=by kernel_rfl
theorem Si {sp:Nat→Bool} {cs:List Value} {x:DataW H×List MemPlace} (h:DataW.trod enc Tryz.prog W base sp held n 24 cs=some x):∃k:List UInt8,cs=k.map bv∧k.length=32:=by
 obtain⟨xs,m,rfl,hx,hl,hxl,hf⟩:=DataW.trod_array Tryz.underlying24 h;have hl':cs.length=32:=hl.trans QE
 have hby:∀(i:Nat) (v:Value),cs[i]?=some v→∃b:UInt8,v=bv b:=fun i v hv=>by
  have hi:i<32:=by have:=(List.getElem?_eq_some_iff.1 hv).1;omega
  have h1:=hf i hi;rw[Kj,Nat.mul_one] at h1
  have h2:(cs.drop i).take 1 = [v]:=by
   have hlt:i<cs.length:=by omega
   rw[List.drop_eq_getElem_cons hlt];rw[List.getElem?_eq_getElem hlt] at hv;cases hv;rfl
  rw[h2] at h1;have hxi:i<xs.length:=by omega
  rw[List.getElem?_eq_getElem hxi] at h1;exact Lj h1
 clear hf hl hxl hx h
 have:∀(l:List Value),(∀(i:Nat) (v:Value),l[i]?=some v→∃b:UInt8,v=bv b)→∃k:List UInt8,l=k.map bv:=fun l=>by
  induction l with
  | nil=>intro _;exact⟨[],rfl⟩
  | cons a l ih =>
   intro hq;obtain⟨b,rfl⟩:=hq 0 a rfl;obtain⟨k,rfl⟩:=ih (fun i v hv=>hq (i+1) v (by simpa using hv));exact⟨b::k,rfl⟩
 obtain⟨k,rfl⟩:=this cs hby;exact⟨k,rfl,by simpa using hl'⟩
def CO (w:World) (g o:Nat) (cs:Array Value):Prop:=∃cur t fr,w.heap[g]?=some (.cells cur t fr)∧o+cs.size≤cur.size∧cur.extract o (o+cs.size)=cs
theorem CO.Is {w:World} {g o m:Nat} {cs:List Value} (hm:0<m) (hl:cs.length=m) (h:∀i,i<m→w.cell? ⟨g,o+i,none⟩=cs[i]?):CO w g o cs.toArray:=by
 have h0:=h 0 hm;rw[List.getElem?_eq_getElem (by omega)] at h0;unfold World.cell? at h0;cases hq:w.heap[g]? with
 | none=>simp only[hq] at h0;cases h0
 | some ob =>
  cases ob with
  | cells cur t fr =>
   have hc:∀i,i<m→cur[o+i]?=cs[i]?:=fun i hi=>by
    have:=h i hi;unfold World.cell? at this;simpa[hq] using this
   have hlast:=hc (m-1) (by omega);rw[List.getElem?_eq_getElem (show m-1<cs.length by omega)] at hlast;have hsz:=(Array.getElem?_eq_some_iff.1 hlast).1;have hsz':o+m≤cur.size:=by omega
   refine⟨cur,t,fr,hq,by simpa[hl] using hsz',?_⟩;apply Array.ext';apply List.ext_getElem?;intro i;simp only[List.size_toArray,Array.toList_extract,List.extract,hl];rw[show o+m-o=m by omega];by_cases hi:i<m
   · rw[List.getElem?_take_of_lt hi,List.getElem?_drop,Array.getElem?_toList]
     exact hc i hi
   rw[List.getElem?_eq_none (by simp;omega),List.getElem?_eq_none (by omega)]
  | _=>simp only[hq] at h0;cases h0
theorem CO.An {F:Nat→Prop} {w w':World} {g o:Nat} {cs:Array Value} (h:CO w g o cs) (hc:Ch F w w') (hF:¬F g):CO w' g o cs:=by
 obtain⟨cur,t,fr,h1,h2,h3⟩:=h;exact⟨cur,t,fr,hc.row h1 hF,h2,h3⟩
end
end Go.Proofs.YtooijgcildbnlaaGreat
namespace Go.Proofs.YtooijgcildbnlaaGreat.BE
open Go.RowKit Go.Proofs.YtooijgcildbnlaaGreat.ShaW Go.Proofs.YtooijgcildbnlaaGreat.Path Go.Proofs.YtooijgcildbnlaaGreat.Store Go.Deep Go.ChangeShapes Go.WideShapes Go.ChangeAt
structure LM where
 kind:Int
 key:List UInt8
 vv:Value
 val:List UInt8
 h:Int
def LM.cells (x:LM):Array Value:=(.int .i64 x.kind::(x.key.map bv ++ [x.vv,.int .i64 x.h])).toArray
structure LM.Good (w:World) (x:LM):Prop where
 key:x.key.length=32
 val:Bytes w x.vv x.val
 blk:x.val ≠ []→∀k,x.vv.ownBlock=some k→k<w.heap.size
section
variable {x : LM} (h : x.key.length=32)
include h
end
structure Pr where
 key:List UInt8
 vv:Value
 val:List UInt8
def Pr.cells (x:Pr):Array Value:=(x.key.map bv ++ [x.vv]).toArray
structure Pr.Good (w:World) (x:Pr):Prop where
 key:x.key.length=32
 val:Bytes w x.vv x.val
 blk:x.val ≠ []→∀k,x.vv.ownBlock=some k→k<w.heap.size
def Pr.ent (x:Pr):List UInt8×List UInt8:=(x.key,x.val)
section
variable {x : Pr} (h : x.key.length=32)
include h
theorem Pr.size:x.cells.size=33:=by simp[Pr.cells,h]
omit h in
theorem Pr.list:x.cells.toList=x.key.map bv ++ [x.vv]:=rfl
theorem Pr.BW:x.cells.extract 0 (0+32)=AM x.key:=by
 apply Array.ext';simp only[Array.toList_extract,List.extract,Pr.list,AM,List.drop_zero];rw[List.take_append_of_le_length (by simp[h]),List.take_of_length_le (by simp[h])]
theorem Pr.Hu:x.cells[32]?=some x.vv:=by
 rw[←Array.getElem?_toList,Pr.list,List.getElem?_append_right (by simp[h])];simp[h]
end
theorem Pr.one {w:World} {x:Pr} (h:x.Good w):∀v∈x.cells.toList,v.oneCell'=true:=fun v hv=>by
 rw[Pr.list,List.mem_append,List.mem_map,List.mem_singleton] at hv;rcases hv with⟨b,_,rfl⟩|rfl
 · rfl
 obtain⟨ao,cap,e,_⟩:=h.val.form;rw[e];rfl
def Fm (w:World) (ao:Option Addr) (l:List Pr):Prop:=(∀x∈l,x.Good w)∧∀i x,l[i]?=some x→∃(g off:Nat),ao=some ⟨g,off,none⟩∧CO w g (off+i*33) x.cells

end Go.Proofs.YtooijgcildbnlaaGreat.BE
namespace Go.Proofs.YtooijgcildbnlaaGreat.BE
open Go.RowKit Go.Proofs.YtooijgcildbnlaaGreat.ShaW Go.Proofs.YtooijgcildbnlaaGreat.Path Go.Proofs.YtooijgcildbnlaaGreat.Store
structure St9 (w0 w:World) (s:Nat) (σ:AD Nd) (root:Int) (L:AQ) (n:Nat) (b:Nat):Prop where
 own:Ow w0 w s σ (fun _=>False)
 db:Db σ root L
 room:σ.room=n
 total:total σ≤b
def Xg (l:List Pr):Bool:=decide (16<l.length)||l.any (fun x=>decide (1024<x.val.length))
def Ip (l:List Pr):List Value:=l.flatMap fun x=>x.cells.toList
def Xy (l:List Pr):Prop:=∀x∈l,x.key.length=32
theorem MG (l m:List Pr):Ip (l++m)=Ip l++Ip m:=by simp[Ip]
def RowP (w:World) (b:Nat) (v:Value) (l:List Pr):Prop:=w.ownsRow b 141 33 v l.length (Ip l)
variable {w w' : World} {b : Nat} {v : Value} {l : List Pr}
theorem RowP.form (h:RowP w b v l):∃ao cap,v=.slice ao l.length cap:=As h
theorem RowP.adds (h:RowP w b v l) (a:Adds w w'):RowP w' b v l:=a.owns h (fun _ _ h=>h)
theorem RowP.nil (w:World) (b:Nat):RowP w b (.slice none 0 0) []:=World.ownsRow_nil _ _ _ _
inductive Nq:List Pr→List Pr→Prop
 | nil:Nq [] []
 | new {l out:List Pr} {p:Pr} (h:Nq l out) (hp:∀q∈out,q.key≠p.key):Nq (l ++ [p]) (out ++ [p])
 | old {l out:List Pr} {p q:Pr} {i:Nat} (h:Nq l out) (hq:out[i]?=some q) (hk:q.key=p.key):Nq (l ++ [p]) (out.set i p)
end Go.Proofs.YtooijgcildbnlaaGreat.BE

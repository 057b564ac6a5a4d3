/- Laws of the layers below. -/
import Derived.Test.YtooijgcildbnlaaGreatQg14
import Derived.Lib.Bytealg
import Derived.Sort.Statements
set_option maxHeartbeats 3200000
set_option maxRecDepth 100000
set_option linter.unusedVariables false
namespace Go.Proofs.YtooijgcildbnlaaGreat.Store
open Go.RowKit Go.Proofs.YtooijgcildbnlaaGreat.ShaW Go.Proofs.YtooijgcildbnlaaGreat.Path
open Go.Maps (Keyed keyOf_int_mk)
section
variable {σ : AD Nd} {R : List Int} {k k1 k2 : Wk} {a b x : Int}
theorem Pm {α:Type} {f:α→Nat} {l:List α} {y:α} (h:y∈l):f y≤(l.map f).sum:=by
 induction l with
 | nil=>cases h
 | cons z l ih =>
  simp only[List.map_cons,List.sum_cons];rcases List.mem_cons.1 h with rfl|h
  · omega
  have:=ih h;omega
theorem Wanting.XU (H:Wanting σ R k.todo.length k) (h:Fro σ R x):x∈k.todo:=by
 have step:∀ {y z:Int},y∈k.todo→z≠0→1≤refs (nd σ y) z→z∈k.todo:=fun {y z} hy hz hr=>by
  refine(H.mem z).2 ?_;rw[H.P0 hz];have:refs (nd σ y) z≤(k.todo.map fun q=>refs (nd σ q) z).sum:=Pm (f:=fun q=>refs (nd σ q) z) hy;omega
 induction h with
 | root h1 h2 =>
  refine(H.mem _).2 ?_;rw[H.P0 h2];have:=List.count_pos_iff.2 h1;omega
 | left _ h2 ih=>exact step ih h2 (by unfold refs;rw[if_pos rfl];omega)
 | right _ h2 ih=>exact step ih h2 (by unfold refs;rw[if_pos (c:=_=(nd σ _).right) rfl];omega)
theorem Wanting.QU (H:Wanting σ R k.todo.length k):x∈k.todo↔Fro σ R x:=⟨H.fro x,H.XU⟩
def Up (l:List Int):Prop:=∀i x y,l[i]?=some x→l[i+1]?=some y→x<y
theorem Um (σ:AD Nd):∀j,(σ.occ j).Pairwise (· < ·)∧∀n∈σ.occ j,n≤j
 | 0=>by simp[AD.occ]
 | j+1=>by
  obtain⟨h1,h2⟩:=Um σ j;cases hx:σ.get? ((j:Int)+1) with
  | none=>rw[AD.Ev hx];exact⟨h1,fun n hn=>by have:=h2 n hn;omega⟩
  | some y =>
   rw[AD.Eo hx];refine⟨List.pairwise_append.2 ⟨h1,by simp,fun a ha b hb=>by rw[List.mem_singleton.1 hb];have:=h2 a ha;omega⟩,fun n hn=>?_⟩;rcases List.mem_append.1 hn with hn|hn
   · have:=h2 n hn;omega
   rw[List.mem_singleton.1 hn];omega
theorem O5:(Ac σ).Pairwise (· < ·):=(Um σ _).1
structure YO (σ:AD Nd) (la lb lc ld:List Int):Prop where
 small:∀x,x∈la∨x∈lb∨x∈lc∨x∈ld→0≤x∧x≤65536
 both:∀x,x∈lc↔x∈la∨x∈lb
 nodup:lc.Nodup
 upc:Up lc
 upd:Up ld
 lost:∀x∈ld,has σ x=true∧x∉lc
 all:lc.length+ld.length=σ.used
 lenA:la.length≤65536
 lenB:lb.length≤65536
theorem Ew (G:Good σ):(Ac σ).length≤65536:=by
 have h2:(Ac σ).length≤σ.slots.length:=AD.GK σ _;have:=G.sound.wf.len;have:=G.sound.wf.room;omega
def Yz (x:Int) (S:List Int):List Int:=if x∈S then S else x::S
noncomputable abbrev Wi:Value→Option (DataW Value×List MemPlace):=plainElem Tryz.prog 4
structure Yy (w:World) (b n:Nat) (S:List Int):Prop where
 ex:∃D,w.ownsMap Tryz.prog 3 Wi b n D∧Maps.size D=S.length∧∀x:Int,D.atKey (ky x) (.lit (.bool false))=.lit (.bool (decide (x∈S)))∧Maps.has D (ky x)=decide (x∈S)
end
section
variable {w : World} {s : Nat} {F : Nat→Prop} {σ : AD Nd} {R : List Int} {ao : Option Addr}
def Xo (w w':World) (σ:AD Nd) (R:List Int) (pick:Wk→List Int) (e:Ending):Prop :=
 ∃(qo:Option Addr) (qc:Nat) (l:List Int),e=.returned (.tuple #[.slice qo l.length qc,.int .i64 (chk σ R)])∧w'.ownsRow w.heap.size 3 1 (.slice qo l.length qc) l.length (Ci l)∧Adds w w' ∧
  ((chk σ R≠0∧l = [])∨(chk σ R=0∧∃k,Wanting σ R k.todo.length k∧l=pick k))
end
end Go.Proofs.YtooijgcildbnlaaGreat.Store
namespace Go.Proofs.YtooijgcildbnlaaGreat.Store
open Go.RowKit Go.Proofs.YtooijgcildbnlaaGreat.ShaW Go.Proofs.YtooijgcildbnlaaGreat.Path
section
variable {σ : AD Nd} {R : List Int} {k k' : Wk} {x h : Int}
def Bx (S:List Int) (l:List Nat):List Int:=(l.filter fun n:Nat=>decide ((n:Int)∈S)).map fun n:Nat=>(n:Int)
theorem Og (S:List Int) (l:List Nat) (n:Nat):Bx S (l ++ [n])=Bx S l++(if (n:Int)∈S then [(n:Int)] else []):=by
 unfold Bx;rw[List.filter_append,List.map_append]
 congr 1
 by_cases e:(n:Int)∈S
 · simp[e]
 simp[e]
theorem Hm (S:List Int) (l:List Nat):(Bx S l).length≤l.length:=by
 unfold Bx;rw[List.length_map];exact List.length_filter_le _ _
theorem Kq (H:Wanting σ R k.todo.length k):x∈Bx k.todo (Ac σ)↔x∈k.todo:=by
 unfold Bx;constructor
 · intro hx
   obtain⟨n,hn,rfl⟩:=List.mem_map.1 hx;exact of_decide_eq_true (List.mem_filter.1 hn).2
 intro hx;obtain⟨z,hz⟩:=Md (H.there x hx);obtain⟨m,hm,e⟩:=(E8 x).1 ⟨z,hz⟩;exact List.mem_map.2 ⟨m,List.mem_filter.2 ⟨hm,by rw[←e];exact decide_eq_true hx⟩,e.symm⟩
theorem Q7 (S:List Int):(Bx S (Ac σ)).Pairwise (· < ·):=by
 unfold Bx;refine List.pairwise_map.2 ((O5.filter _).imp fun {a b} h=>by omega)
theorem JO (H:Wanting σ R k.todo.length k):k.todo.Perm (Bx k.todo (Ac σ)) :=
 (List.perm_ext_iff_of_nodup H.nodup ((Q7 _).imp fun {a b} h=>by omega)).2 fun y=>(Kq H).symm
def Dv (σ:AD Nd) (L R:List Int) (h:Int):Nat:=(L.map fun x=>refs (nd σ x) h).sum+R.count h
theorem Lt (H:Wanting σ R k.todo.length k) (h0:h≠0):Dv σ (Bx k.todo (Ac σ)) R h=k.cnt h:=by
 unfold Dv;rw[H.P0 h0,((JO H).map _).sum_nat];omega
theorem Wanting.same (H:Wanting σ R k.todo.length k) (H':Wanting σ R k'.todo.length k'):k.todo.Perm k'.todo∧k.cnt=k'.cnt:=by
 have hp:k.todo.Perm k'.todo:=(List.perm_ext_iff_of_nodup H.nodup H'.nodup).2 fun y=>by rw[H.QU,H'.QU]
 refine⟨hp,funext fun y=>?_⟩;by_cases h0:y=0
 · rw[h0,H.zero,H'.zero]
 rw[H.P0 h0,H'.P0 h0,(hp.map _).sum_nat]
theorem Oj (H:Wanting σ R k.todo.length k):(k.todo.filter fun x=>decide (1<k.cnt x)).length=((Bx k.todo (Ac σ)).filter fun x=>decide (1<Dv σ (Bx k.todo (Ac σ)) R x)).length:=by
 have e:(Bx k.todo (Ac σ)).filter (fun x=>decide (1<Dv σ (Bx k.todo (Ac σ)) R x))=(Bx k.todo (Ac σ)).filter (fun x=>decide (1<k.cnt x)):=by
  refine List.filter_congr fun y hy=>?_
  have h0:y≠0:=(H.fro y ((Kq H).1 hy)).ne;rw[Lt H h0]
 rw[e];exact((JO H).filter _).length_eq
theorem Mo (σ:AD Nd) {f g:Int→Nat} {l:List Nat} (h:∀n∈l,f (n:Int)=g (n:Int)):DV σ f l=DV σ g l:=by
 unfold DV
 induction l with
 | nil=>rfl
 | cons a l ih =>
  have e:=h a (List.mem_cons_self ..);have e2:=ih fun n hn=>h n (List.mem_cons_of_mem _ hn)
  simp only[List.filterMap_cons,e,e2]
theorem PT (H:Wanting σ R k.todo.length k):IL σ k.cnt=DV σ (Dv σ (Bx k.todo (Ac σ)) R) (Ac σ):=by
 unfold IL;refine Mo σ fun n hn=>?_
 have h0:(n:Int)≠0:=by
  obtain⟨y,hy⟩:=(E8 (n:Int)).2 ⟨n,hn,rfl⟩;exact JC hy
 rw[Lt H h0]
end
theorem NZ {a b:UInt8}:a<b↔a.toNat<b.toNat:=UInt8.lt_iff_toNat_lt
theorem Xy {a b:UInt8}:a=b↔a.toNat=b.toNat:=UInt8.toNat_inj.symm
theorem IG (n j:Nat) (hj:j<8):n / 2 ^ (7-j)=2*(n / 2 ^ (8-j))+n / 2 ^ (7-j) % 2:=by
 have:n / 2 ^ (8-j)=n / 2 ^ (7-j) / 2:=by
  rw[Nat.div_div_eq_div_mul, ←Nat.pow_succ,Nat.succ_eq_add_one,show 7-j+1=8-j by omega]
 omega
theorem Jn (x y:UInt8):∀j,j≤8→(∀i,i<j→CP x i=CP y i)→x.toNat / 2 ^ (8-j)=y.toNat / 2 ^ (8-j)
 | 0,_,_=>by
  have a:=x.toNat_lt;have b:=y.toNat_lt;rw[Nat.div_eq_of_lt (by simpa using a),Nat.div_eq_of_lt (by simpa using b)]
 | j+1,hj,h=>by
  have ih:=Jn x y j (by omega) (fun i hi=>h i (by omega));have e:=h j (by omega);unfold CP at e;have a:=IG x.toNat j (by omega);have b:=IG y.toNat j (by omega);rw[show 8-(j+1)=7-j by omega,a,b,ih,e]
theorem Vf (x y:UInt8) (j:Nat) (hj:j<8) (h:∀i,i<j→CP x i=CP y i) (hx:CP x j=0) (hy:CP y j=1):x<y:=by
 rw[NZ];have e:=Jn x y j (by omega) h;have a:=IG x.toNat j hj;have b:=IG y.toNat j hj;unfold CP at hx hy;rw[hx,e] at a;rw[hy] at b;rcases Nat.lt_or_ge x.toNat y.toNat with g|g
 · exact g
 have:=Nat.div_le_div_right (c:=2 ^ (7-j)) g;omega
theorem Qd (x y:UInt8) (h:∀i,i<8→CP x i=CP y i):x=y:=by
 rw[Xy];have e:=Jn x y 8 (Nat.le_refl _) h;simpa using e
theorem FD (x:UInt8) (l:List UInt8) {d:Nat} (h:d<8):BE (x::l) d=CP x d:=by
 unfold BE;rw[Nat.div_eq_of_lt h,Nat.mod_eq_of_lt h];rfl
theorem IT (x:UInt8) (l:List UInt8) (d:Nat):BE (x::l) (d+8)=BE l d:=by
 unfold BE;rw[Nat.add_div_right _ (by omega),Nat.add_mod_right];rfl
theorem Jv:∀(a b:List UInt8) (d:Nat),a.length=b.length→d<8*a.length→Pre a b d→BE a d=0→BE b d=1→Lib.compareBytes a b = -1
 | [],_,d,_,h,_,_,_=>absurd h (by simp)
 | _::_,[],_,h,_,_,_,_=>absurd h (by simp)
 | x::l,y::m,d,hl,hd,hp,ha,hb=>by
  by_cases h8:d<8
  · rw[FD x l h8] at ha
    rw[FD y m h8] at hb;have:=Vf x y d h8 (fun i hi=>by have:=hp i hi;rwa [FD x l (by omega),FD y m (by omega)] at this) ha hb;unfold Lib.compareBytes;rw[if_pos this]
  obtain⟨e,rfl⟩:∃e,d=e+8:=⟨d-8,by omega⟩
  rw[IT] at ha hb;have hxy:=Qd x y (fun i hi=>by have:=hp i (by omega);rwa [FD x l hi,FD y m hi] at this);subst hxy;unfold Lib.compareBytes;rw[if_neg (UInt8.lt_irrefl x),if_neg (UInt8.lt_irrefl x)];refine Jv l m e (by simpa using hl) (by simp at hd;omega) (fun i hi=>?_) ha hb;have:=hp (i+8) (by omega)
  rwa [IT,IT] at this
theorem Fg:∀a:List UInt8,Lib.compareBytes a a=0
 | []=>rfl
 | x::l=>by
  unfold Lib.compareBytes;rw[if_neg (UInt8.lt_irrefl x),if_neg (UInt8.lt_irrefl x)];exact Fg l
theorem F8:∀a b c:List UInt8,Lib.compareBytes a b<0→Lib.compareBytes b c<0→Lib.compareBytes a c<0
 | [],[],c,h,_=>absurd h (by decide)
 | [],_::_,[],_,h=>absurd h (by simp[Lib.compareBytes])
 | [],_::_,_::_,_,_=>by simp[Lib.compareBytes]
 | _::_,[],_,h,_=>absurd h (by simp[Lib.compareBytes])
 | _::_,_::_,[],_,h=>absurd h (by simp[Lib.compareBytes])
 | x::a,y::b,z::c,h1,h2=>by
  have ih:=F8 a b c;unfold Lib.compareBytes at h1 h2 ⊢;simp only[NZ] at h1 h2 ⊢;by_cases e1:x.toNat<y.toNat
  · by_cases e2:y.toNat<z.toNat
    · rw[if_pos (by omega)];decide
    rw[if_neg e2] at h2;by_cases e3:z.toNat<y.toNat
    · rw[if_pos e3] at h2;exact absurd h2 (by decide)
    rw[if_pos (by omega)];decide
  rw[if_neg e1] at h1;by_cases e0:y.toNat<x.toNat
  · rw[if_pos e0] at h1;exact absurd h1 (by decide)
  rw[if_neg e0] at h1;by_cases e2:y.toNat<z.toNat
  · rw[if_pos (by omega)];decide
  rw[if_neg e2] at h2;by_cases e3:z.toNat<y.toNat
  · rw[if_pos e3] at h2;exact absurd h2 (by decide)
  rw[if_neg e3] at h2;rw[if_neg (by omega),if_neg (by omega)];exact ih h1 h2
theorem Ft:∀a b c:List UInt8,¬Lib.compareBytes a b<0→¬Lib.compareBytes b c<0→¬Lib.compareBytes a c<0
 | [],[],c,_,h=>h
 | [],_::_,_,h,_=>absurd (by simp[Lib.compareBytes]) h
 | _::_,[],[],_,_=>by simp[Lib.compareBytes]
 | _::_,[],_::_,_,h=>absurd (by simp[Lib.compareBytes]) h
 | _::_,_::_,[],_,_=>by simp[Lib.compareBytes]
 | x::a,y::b,z::c,h1,h2=>by
  have ih:=Ft a b c;unfold Lib.compareBytes at h1 h2 ⊢;simp only[NZ] at h1 h2 ⊢;by_cases e1:x.toNat<y.toNat
  · rw[if_pos e1] at h1;exact absurd (by decide) h1
  rw[if_neg e1] at h1;by_cases e2:y.toNat<z.toNat
  · rw[if_pos e2] at h2;exact absurd (by decide) h2
  rw[if_neg e2] at h2;rw[if_neg (by omega)];by_cases e0:y.toNat<x.toNat
  · rw[if_pos (by omega)];decide
  rw[if_neg e0] at h1;by_cases e3:z.toNat<y.toNat
  · rw[if_pos (by omega)];decide
  rw[if_neg e3] at h2;rw[if_neg (by omega)];exact ih h1 h2
def DT (L:Bi):Prop:=L.Pairwise fun p q=>¬Lib.compareBytes q.1 p.1<0
theorem DT.take {L:Bi} (h:DT L) (n:Nat):DT (L.take n):=h.sublist (List.take_sublist n L)
theorem DT.drop {L:Bi} (h:DT L) (n:Nat):DT (L.drop n):=h.sublist (List.drop_sublist n L)
theorem PO {L:Bi} {k:List UInt8} {d:Nat} (hO:L.Ok k d) (hd:d<256) (hr:DT L) {i j:Nat} {p q:List UInt8×List UInt8} (hij:i≤j) (hp:L[i]?=some p) (hq:L[j]?=some q) (h1:BE p.1 d=1):BE q.1 d=1:=by
 rcases Nat.lt_or_ge i j with h|h
 · rcases IC q.1 d with h0|h0
   · exfalso
     have mp:=List.mem_of_getElem? hp;have mq:=List.mem_of_getElem? hq;have hc:=Jv q.1 p.1 d (by rw[hO.len p mp,hO.len q mq]) (by rw[hO.len q mq];omega) ((hO.pre q mq).trans (hO.pre p mp).symm) h0 h1;obtain⟨hil,rfl⟩:=List.getElem?_eq_some_iff.1 hp;obtain⟨hjl,rfl⟩:=List.getElem?_eq_some_iff.1 hq;have:=List.pairwise_iff_getElem.1 hr i j hil hjl h;rw[hc] at this;exact this (by decide)
   exact h0
 have:i=j:=by omega
 subst this;rw[hp] at hq;cases hq;exact h1
theorem Po {L:Bi} {k:List UInt8} {d n:Nat} (hO:L.Ok k d) (hd:d<256) (hr:DT L) (h0:∀i p,i<n→L[i]?=some p→BE p.1 d=0) (h1:∀p,L[n]?=some p→BE p.1 d=1):DE 0 d L=L.take n∧DE 1 d L=L.drop n:=by
 have a0:∀p∈L.take n,BE p.1 d=0:=fun p hp=>by
  obtain⟨i,hi⟩:=List.mem_iff_getElem?.1 hp;rw[List.getElem?_take] at hi;split at hi
  · rename_i hin
    exact h0 i p hin hi
  cases hi
 have a1:∀p∈L.drop n,BE p.1 d=1:=fun p hp=>by
  obtain⟨i,hi⟩:=List.mem_iff_getElem?.1 hp;rw[List.getElem?_drop] at hi;have hnl:n<L.length:=by have:=(List.getElem?_eq_some_iff.1 hi).1;omega
  exact PO hO hd hr (Nat.le_add_right n i) (List.getElem?_eq_getElem hnl) hi (h1 _ (List.getElem?_eq_getElem hnl))
 have hs:=List.take_append_drop n L;constructor
 · unfold DE
   conv=>lhs;rw[←hs,List.filter_append]
   rw[List.filter_eq_self.2 (fun p hp=>by simp[a0 p hp]),List.filter_eq_nil_iff.2 (fun p hp=>by simp[a1 p hp]),List.append_nil]
 unfold DE
 conv=>lhs;rw[←hs,List.filter_append]
 rw[List.filter_eq_nil_iff.2 (fun p hp=>by simp[a0 p hp]),List.filter_eq_self.2 (fun p hp=>by simp[a1 p hp]),List.nil_append]
theorem Bi.Ok.sides {L:Bi} {k:List UInt8} {d:Nat} (hO:L.Ok k d) (b:Nat) (hb:b<2):∃k',Bi.Ok (DE b d L) k' (d+1):=by
 match hL:DE b d L with
 | []=>exact⟨k,by simp[Dz],by simp,by simp⟩
 | p::R =>
  have hm:∀q∈DE b d L,q∈L∧BE q.1 d=b:=fun q hq=>⟨(List.mem_filter.1 hq).1,by simpa using (List.mem_filter.1 hq).2⟩
  have hp:=hm p (by rw[hL];simp);refine⟨p.1,?_⟩;rw[←hL];exact⟨(hO.filter _).nodup,(hO.filter _).len,fun q hq=>((hO.pre q (hm q hq).1).trans (hO.pre p hp.1).symm).next (by rw[(hm q hq).2,hp.2])⟩
theorem Tr.GF:∀t:Tr,t.dig.length=32
 | .nil=>Tag.Ab _ _
 | .leaf _ _=>Tag.Ab _ _
 | .node _ _=>Tag.Ab _ _
end Go.Proofs.YtooijgcildbnlaaGreat.Store

/- Laws of the layers below. -/
import Derived.Test.YtngbdbpofifimaaGreatQm26
set_option maxHeartbeats 3200000
set_option maxRecDepth 100000
set_option linter.unusedVariables false
namespace Go.Proofs.YtngbdbpofifimaaGreat.Store
open Go.RowKit Go.Sort Go.Proofs.YtngbdbpofifimaaGreat.ShaW Go.Proofs.YtngbdbpofifimaaGreat.Path Go.Proofs.YtngbdbpofifimaaGreat.Bk
def bef (ks:List (List UInt8)) (key:List UInt8):Nat:=ks.countP (fun k=>decide (Lib.compareBytes k key<0))
theorem Te {ks:List (List UInt8)} {key k:List UInt8} {i:Nat} (h:ks[i]?=some k):bef (ks.take (i+1)) key=bef (ks.take i) key+if Lib.compareBytes k key<0 then 1 else 0:=by
 unfold bef;rw[List.take_add_one,h,List.countP_append]
 show _+List.countP _ [k]=_
 rw[List.countP_singleton];simp only[decide_eq_true_eq]
theorem Rz (ks:List (List UInt8)) (key:List UInt8):bef ks key≤ks.length:=List.countP_le_length
theorem J5 {w:World} {ao:Option Addr} {l:List Pr} {key:List UInt8} (cap:Nat) (h:Ba w ao l) (hl:l.length≤100000) (hk:key.length=32) :
 Calls Tryz.prog 83 #[.slice ao l.length cap,.agg (AS key)] w fun e w'=>e=.returned (.int .i64 (bef (l.map (·.key)) key:Nat))∧AN w w':=by
 obtain⟨n,hn⟩:∃n,n=l.length:=⟨_,rfl⟩
 obtain⟨K,hK⟩:∃K,K=AS key:=⟨_,rfl⟩
 have hKs:K.size=32:=by rw[hK,AU,hk]
 have a0:AN w (w.alloc (.cells K 47)):=(Ch.refl _ _).alloc _;have g0:=heap_alloc_new w (.cells K 47);have hend:bef ((l.map (·.key)).take n) key=bef (l.map (·.key)) key:=by rw[List.take_of_length_le (by rw[List.length_map];omega)]
 rw[←hn, ←hK, ←hend];obtain⟨ks,hks⟩:∃ks,ks=l.map (·.key):=⟨_,rfl⟩
 rw[←hks];have HL:=(hIq h (aIq hn (aIq hks (aIq hl hk))))
 have HK:=(hIq hKs (aIq hK (aIq a0 g0)))
 obtain⟨tot,htot⟩:∃t,t=bef (ks.take n) key:=⟨_,rfl⟩
 rw[←htot];have HT:=Lib.hid htot;clear h hn hks hl hk hKs hK a0 g0 hend htot;go_enter Tryz.func83,Tryz.ntmps83;go_wp2_with fail;go_loopg [5,6] n (fun gg s5 s6 wr=>∃i m:Nat,i≤n∧gg=n-i∧s6=.int .i64 i∧s5=.int .i64 m∧m=bef (ks.take i) key∧wr.heap[w.heap.size]?=some (.cells K 47 (0,0))∧AN w wr)
 case atStart=>exact⟨0,0,Nat.zero_le _,rfl,rfl,rfl,by simp[bef],HK.out.2.2.2,HK.out.2.2.1⟩
 obtain⟨i,m,hi,rfl,rfl,rfl,hm,hr,ha⟩:=hrel;have HA:=(hIq hm (aIq hr ha))
 clear hm hr ha;by_cases hin:i<n
 · have e1:(i:Int)<(n:Int):=by omega
   obtain⟨x,hx⟩:∃x,l[i]?=some x:=⟨_,List.getElem?_eq_getElem (by have:=HL.out.2.1;omega)⟩
   obtain⟨g,off,rfl,cur,ty,fr,c1,c2,c3⟩:=HL.out.1.2 i x hx;have hgx:=HL.out.1.1 x (List.mem_of_getElem? hx);have hsz:=Pr.size hgx.key;rw[hsz] at c2 c3;obtain⟨c4,_⟩:=CG hgx.key c3;have hst:=Te (ks:=ks) (key:=key) (i:=i) (k:=x.key) (by rw[HL.out.2.2.1,List.getElem?_map,hx];rfl);have hcm:=fun w1=>Er x.key key hgx.key HL.out.2.2.2.2 w1
   rw[←HK.out.2.1] at hcm;obtain⟨X,hX⟩:∃X,X=AS x.key:=⟨_,rfl⟩
   obtain⟨cv,hcv⟩:∃cv,cv=Lib.compareBytes x.key key:=⟨_,rfl⟩
   rw[←hX] at hcm c4;rw[←hcv] at hcm hst;have HX:=(hIq (HA.out.2.2.row c1 id) (aIq c2 (aIq c4 (aIq hcm hst))))
   have hwm:wrap64 ((m:Int)+1)=(m:Int)+1:=by have:=HA.out.1;have:=Rz (ks.take i) key;have h2:=HL.out.2.2.2.1;rw[List.length_take] at this;have:=HL.out.2.1;unfold wrap64;omega
   have hwi:wrap64 ((i:Int)+1)=(i:Int)+1:=by have h2:=HL.out.2.2.2.1;have:=HL.out.2.1;unfold wrap64;omega
   clear hx c1 c2 c3 c4 hgx hsz hst hcm hX hcv;go_upto_region 5 with fail;refine AP (fun wz=>wz.heap[w.heap.size]?=some (.cells K 47 (0,0))∧wz.heap[g]?=some (.cells cur ty fr)) 8 [(0,false),(1,false),(2,false),(3,false),(4,false),(5,false),(6,true),(7,false)] (by kernel_rfl) (by kernel_rfl) ?_ ?_
   · exact⟨AM HA.out.2.1,AM HX.out.1⟩
   iterate 4
    refine plan_look rfl rfl (fun w0 hS=>(by clear hS;go_simp;try rfl)) ?_;simp only[Act.put,nAq,nBq,nCq]
   refine Cc (cur:=cur) (t:=ty) (fr:=fr) rfl rfl 47 _ rfl g (off+i*33) 32 rfl (fun w0 hS=>hS.2) Tryz.underlying47 rfl Ab (by have:=HX.out.2.1;omega) X HX.out.2.2.1 ?_;simp only[Act.put,nAq,nBq,nCq];refine Cc (cur:=K) (t:=47) (fr:=(0,0)) rfl rfl 47 _ rfl w.heap.size 0 32 rfl (fun w0 hS=>hS.1) Tryz.underlying47 rfl Ab (by rw[HK.out.1];omega) K (by have:=HK.out.1;simp[←this]) ?_;simp only[Act.put,nAq,nBq,nCq];refine AW rfl ?_;go_wp2_with fail;refine(HX.out.2.2.2.1 _).mono ?_;rintro e w3 ⟨rfl,a3⟩;have A3:=(hIq ((HA.out.2.2.drew).trans a3 (fun _=>fEq)) (aIq (a3.row (AM HA.out.2.1) id) (a3.row (AM HX.out.1) id)))
   clear a3;dsimp only;go_step;refine wpList_nil ?_;change _∧_;refine⟨A3.out.2,?_⟩;refine plan_look (v:=.bool (decide (cv<0))) rfl rfl (fun w0 hS=>(by clear hS;go_simp;try rfl)) ?_;simp only[Act.put,nAq,nBq,nCq];refine AZ ?_;simp only[List.drop_succ_cons,List.drop_zero];by_cases hc:cv<0
   · rw[decide_eq_true hc]
     go_wp2;refine NoPanic.normal ?_;go_wp2;go_roundg (n-(i+1))
     case measure=>omega
     exact⟨i+1,m+1,by omega,rfl,by first|(simp;done)|(simp[hwi];done),by first|(simp;done)|(simp[hwm];done),by have h1:=HX.out.2.2.2.2;rw[if_pos hc] at h1;rw[h1, ←HA.out.1],A3.out.2.1,A3.out.1⟩
   rw[decide_eq_false hc];go_wp2;refine NoPanic.normal ?_;go_wp2;go_roundg (n-(i+1))
   case measure=>omega
   exact⟨i+1,m,by omega,rfl,by first|(simp;done)|(simp[hwi];done),rfl,by(have h1:=HX.out.2.2.2.2;rw[if_neg (by omega)] at h1;rw[h1, ←HA.out.1];try rfl),A3.out.2.1,A3.out.1⟩
 have e1:¬(i:Int)<(n:Int):=by omega
 have he:m=tot:=by rw[HT.out,HA.out.1,show i=n by omega]
 go_wp2;go_ret;exact⟨by first|rfl|(rw[he];rfl),HA.out.2.2⟩
end Go.Proofs.YtngbdbpofifimaaGreat.Store
namespace Go.Proofs.YtngbdbpofifimaaGreat.Store
open Go.RowKit Go.Proofs.YtngbdbpofifimaaGreat.ShaW Go.Proofs.YtngbdbpofifimaaGreat.Path Go.Proofs.YtngbdbpofifimaaGreat.Bk
theorem Hf:Tryz.prog.underlying 56=some (.slice (Tryz.prog.elem 56)):=by kernel_rfl
theorem VG:(Tryz.prog.info? (Tryz.prog.elem 56)).map (·.size)=some 33:=by kernel_rfl
theorem MV (w:World):(sizeOf (Tryz.prog.elem 56)).run Tryz.prog w=.ok 33 w:=by
 have hs:=VG;cases hq:Tryz.prog.info? (Tryz.prog.elem 56) with
 | none=>rw[hq] at hs;cases hs
 | some inf =>
  rw[hq] at hs;have hs':inf.size=33:=by simpa using hs
  simp[sizeOf,typeInfo,hq,hs']
theorem Jv (ao:Option Addr) (len cap i:Nat) (h:i≤cap) (w:World) :
 (Instr.sliceAt 56 (.slice ao len cap) none (some (.int .i64 (i:Int))) none).run Tryz.prog w=.ok (.slice ao i cap) w:=by
 rw[run_sliceAt_slice w _ _ _ _ _ Hf,run_slice_h w _ ao len cap Hf .i64 (i:Int) (by omega) (by omega)];simp only[MV w,Result.andThen_ok,sliced,Int.toNat_natCast]
 have e:(if cap-0=0 then ao else ao.map (·.add (0*33)))=ao:=by
  split
  · rfl
  cases ao with
  | none=>rfl
  | some a=>rfl
 first|(rw[e];rfl)|simp_all
def JS (ao:Option Addr) (cap i:Nat):Option Addr:=if cap=i then ao else ao.map (fun x=>x.add (i*33))
theorem Jt (ao:Option Addr) (len cap i:Nat) (h:i≤len) (hc:len≤cap) (w:World) :
 (Instr.sliceAt 56 (.slice ao len cap) (some (.int .i64 (i:Int))) none none).run Tryz.prog w=.ok (.slice (JS ao cap i) (len-i) (cap-i)) w:=by
 rw[run_sliceAt_slice w _ _ _ _ _ Hf,run_slice_l w _ ao len cap Hf .i64 (i:Int) (by omega) (by omega)];simp only[MV w,Result.andThen_ok,sliced,Int.toNat_natCast];rfl
theorem Ia {w:World} {ops:Array Oper} {rest:List Oper} {o:Oper} {a:Act} {Q:Exit→Act→World→Prop} (hgd:o.guard=none) (x y:Operand) (ho:o.op=.slice 56 x (some y) none none)
 (ao:Option Addr) (len cap i:Nat) (hx:a.eval x=.slice ao len cap) (hy:a.eval y=.int .i64 (i:Int)) (hi:i≤len) (hc:len≤cap)
 (h:wpList Tryz.prog ops Q rest (a.put o.dst (.slice (JS ao cap i) (len-i) (cap-i))) w):wpList Tryz.prog ops Q (o::rest) a w :=
 wpList_plain hgd fun _ hK=>by
  unfold Oper.wp execOp;simp only[ho,hx,hy,Option.map_some,Option.map_none];rw[Sem.run_bind,run_sliceAt_slice w _ _ _ _ _ Hf,run_slice_l w _ ao len cap Hf .i64 (i:Int) (by omega) (by omega)];simp only[MV w,Sem.run_pure,Result.andThen_ok,sliced,Int.toNat_natCast];exact hK _ _ h
end Go.Proofs.YtngbdbpofifimaaGreat.Store
namespace Go.Proofs.YtngbdbpofifimaaGreat.ShaW
open Go.RowKit
def WS (b:List UInt8) (k:Nat):Nat→UInt32
 | 0=>0
 | j+1=>wa (WS b k j <<< 8) (b.getD (4*k+j) 0).toUInt32
end Go.Proofs.YtngbdbpofifimaaGreat.ShaW
namespace Go.Proofs.YtngbdbpofifimaaGreat.Store
open Go.RowKit Go.Proofs.YtngbdbpofifimaaGreat.ShaW Go.Proofs.YtngbdbpofifimaaGreat.Path
def Xq (w0 w:World) (v:Value) (l:List UInt8):Prop:=(∃q qc,v=.slice q l.length qc∧w.ownsRow w0.heap.size 5 1 (.slice q l.length qc) l.length (l.map bv))∧AN w0 w

section
variable {w w' : World} {b : Nat} {F : Nat→Prop} {ρ : Rs} {σ : AG Nd}
theorem Lk.WR (L:Lk σ ρ) {m:Nat} {s:Nd×Nat} {x:Sp} (hs:σ.slots[m]?=Option.some s) (h0:s.2≠0) (hx:ρ.spots[m]?=Option.some x) (hb:0≤s.1.held∧s.1.held≤1073741824):Lk (bump σ ((m:Int)+1) (-1)) (ρ.GN ((m:Int)+1)):=by
 rcases L.slot m s x hs hx with⟨e,_⟩|⟨_,h1,h2,h3,h4,h5,h6,h7,h8⟩
 · exact absurd e h0
 rw[Rs.NB hx,Cq hs h0];refine L.set (.inr ⟨h0,h1,h2,h3,h4,h5,h6,?_,?_⟩)
 · show x.own-1=wrap64 (s.1.held + -1)
   unfold wrap64;omega
 show x.own-1+(x.sides+1)=(s.2:Int)
 omega
theorem Q4 (hw:σ.WF (fun _=>True)) (n:Nd) {m:Nat} {s:Nd×Nat} (hs:σ.slots[m]?=some s) (h0:s.2≠0) (d:Int) :
 (bump σ ((m:Int)+1) d).take n=((σ.take n).1,(σ.take n).2.1,if (σ.take n).2.1=0 then bump (σ.take n).2.2 ((m:Int)+1) d else bump σ ((m:Int)+1) d):=by
 have hlt:=(List.getElem?_eq_some_iff.1 hs).1;rw[Cq hs h0];by_cases hu:σ.used=σ.room
 · have hu':({ σ with slots:=σ.slots.set m (BC s.1 (wrap64 (s.1.held+d)),s.2) }:AG Nd).used=σ.room:=by rw[←hu];unfold AG.used;simp
   unfold AG.take;rw[if_pos hu,if_pos hu'];simp
 have hu':¬({ σ with slots:=σ.slots.set m (BC s.1 (wrap64 (s.1.held+d)),s.2) }:AG Nd).used=σ.room:=by unfold AG.used at hu ⊢;simpa using hu
 unfold AG.take;rw[if_neg hu,if_neg hu'];cases hg:σ.free.getLast? with
 | none =>
  simp only;rw[if_pos trivial,Cq (s:=s) (by simp only;rw[List.getElem?_append_left hlt];exact hs) h0];simp[List.set_append_left _ _ hlt]
 | some k =>
  simp only;obtain⟨hk1,v,hv⟩:=hw.free k (List.mem_of_getLast? hg)
  have hne:k-1≠m:=fun e=>by
   rw[e,hs] at hv;cases hv;exact h0 rfl
  rw[if_pos trivial,Cq (s:=s) (by simp only;rw[List.getElem?_set_ne hne];exact hs) h0];simp[List.set_comm _ _ hne]
def EE (σ:AG Nd) (n:Int):Prop:=n=0∨∃(m:Nat) (s:Nd×Nat),n=(m:Int)+1∧σ.slots[m]?=some s∧s.2≠0∧1≤s.1.held∧s.1.held≤(s.2:Int)∧s.2≤1073741824
theorem EE.of (hs:Sound σ []) {n:Int} (hn:¬Bf σ n):EE σ n:=by
 unfold Bf at hn;by_cases h0:n=0
 · exact .inl h0
 right
 have hh:has σ n=true:=by
  cases e:has σ n
  · exact absurd ⟨h0,.inl e⟩ hn
  rfl
 obtain⟨s,hs'⟩:=Gw hh;have hne:s.1.held≠0:=fun e=>hn ⟨h0,.inr (by rw[Ap hs'];exact e)⟩
 obtain⟨b1,b2,b3⟩:=hs.ER hs';obtain⟨m,e,hm,h1,_⟩:=AG.Ac hs';exact⟨m,s,e,hm,h1,by omega,b2,b3⟩
theorem EE.wf (hw:σ.WF (fun _=>True)) {n:Int} (hn:EE σ n) (d:Int):(bump σ n d).WF (fun _=>True)∧(bump σ n d).used=σ.used∧(bump σ n d).room=σ.room:=by
 rcases hn with rfl|⟨m,s,rfl,hm,h0,_,_,h3⟩
 · rw[FC];exact⟨hw,rfl,rfl⟩
 rw[Cq hm h0];exact⟨hw.set hm h0 trivial h3 h0,by unfold AG.used;simp,rfl⟩
theorem EE.bump {n k:Int} (hn:EE σ n) (hk:EE σ k) (hne:k=n→n=0) (d:Int):EE (bump σ k d) n:=by
 rcases hk with rfl|⟨j,t,rfl,hj,t0,_⟩
 · rw[FC];exact hn
 rcases hn with rfl|⟨m,s,rfl,hm,h0,h1,h2,h3⟩
 · exact .inl rfl
 right;rw[Cq hj t0];refine⟨m,s,rfl,?_,h0,h1,h2,h3⟩;simp only;rw[List.getElem?_set_ne (fun e=>by have:=hne (by rw[e]);omega)];exact hm
theorem Lq (hw:σ.WF (fun _=>True)) (hu:σ.used≠σ.room) (n:Nd) {h:Int} (hn:EE σ h) (d:Int):(Store.bump σ h d).take n=((σ.take n).1,0,Store.bump (σ.take n).2.2 h d):=by
 have he:(σ.take n).2.1=0:=by
  unfold AG.take;rw[if_neg hu];split<;>rfl
 rcases hn with rfl|⟨m,s,rfl,hm,h0,_⟩
 · rw[FC,FC]
   exact Prod.ext rfl (Prod.ext he rfl)
 rw[Q4 hw n hm h0,he,if_pos rfl]
theorem Ji (h:RAt w b F ρ) (L:Lk σ ρ) {n:Int} (hn:EE σ n) :
 Calls Tryz.prog 330 #[.pointer (some ⟨b,0,none⟩),.int .i64 n] w fun e w'=>e=.returned (.tuple #[])∧RMoved w w' b F (ρ.GN n)∧Lk (Store.bump σ n (-1)) (ρ.GN n):=by
 rcases hn with rfl|⟨m,s,rfl,hm,h0,h1,h2,h3⟩
 · rw[ρ.ON,FC]
   exact(OE h).mono fun e w' ⟨he,hw⟩=>⟨he,hw▸RMoved.same h (Ch.refl _ _),L⟩
 have hlt:=(List.getElem?_eq_some_iff.1 hm).1;obtain⟨x,hx⟩:∃x,ρ.spots[m]?=some x:=⟨_,List.getElem?_eq_getElem (by rw[L.len];exact hlt)⟩
 have hl:=L.WR hm h0 hx ⟨by omega,by omega⟩;rcases L.slot m s _ hm hx with⟨e,_⟩|⟨_,_,_,_,_,_,_,g7,g8⟩
 · exact absurd e h0
 rw[Rs.NB hx] at hl ⊢;exact(Sf h hx (by omega) (by omega)).mono fun e w' ⟨he,hw⟩=>⟨he,hw,hl⟩
theorem PJ {d l r:Int} (h:fitsB d l r (nd σ l) (nd σ r)=true):l=r→r=0:=fun e=>by
 subst e;by_cases h0:l=0
 · exact h0
 have h1:=FE (OX h h0);have h2:=FE (Ov h h0);rw[h1] at h2;exact absurd h2 (by decide)
theorem Lk.Ni (L:Lk σ ρ) (G:Good σ) (n:Int):ρ.Ni n = !decide (Bf σ n):=by
 unfold Rs.Ni Bf;rw[L.has G,L.own G]
 have hge:0≤(nd σ n).held:=by
  cases hs:σ.get? n with
  | none=>rw[B9 hs];exact Int.le_refl 0
  | some s=>rw[Ap hs];exact(G.sound.ER hs).1
 by_cases h0:n=0
 · simp[h0]
 by_cases hh:Store.has σ n=true
 · by_cases e:(nd σ n).held=0
   · simp[h0,hh,e]
   simp[h0,hh,e];omega
 simp[h0,hh]
end
section
variable {w w' : World} {b : Nat} {F : Nat→Prop} {ρ : Rs} {σ : AG Nd}
theorem I6 (L:Lk σ ρ) (hw:σ.WF (fun _=>True)):ρ.FG=true↔σ.used=σ.room:=by rw[L.full hw];exact decide_eq_true_iff
theorem OL (h:RAt w b F ρ) (L:Lk σ ρ) (G:Good σ) (d l r:Int) (hb:(Ag σ d l r).2.1≠0) :
 Calls Tryz.prog 302 #[.pointer (some ⟨b,0,none⟩),.int .i64 d,.int .i64 l,.int .i64 r] w fun e w'=>e=.returned (.tuple #[.int .i64 (Ag σ d l r).1,.int .i64 (Ag σ d l r).2.1])∧AN w w'∧(Ag σ d l r).2.2=σ:=by
 have hno:=Cd h;unfold Ag at hb ⊢;by_cases hd:d<0∨255<d
 · rw[if_pos hd] at hb ⊢
   have HNO:=Lib.hid hno;clear hno hb;by_cases h0:d<0
   · clear hd
     go_enter Tryz.func302,Tryz.ntmps302;go_wp2_with fail;refine HNO.out.mono ?_;rintro e w1 ⟨rfl,rfl⟩;go_wp2;go_ret2;exact⟨rfl,Ch.refl _ _,trivial⟩
   have h1:255<d:=hd.resolve_left h0;have h2:256≤d:=by omega
   have h3:0≤d:=by omega
   clear hd;go_enter Tryz.func302,Tryz.ntmps302;go_wp2_with fail;refine HNO.out.mono ?_;rintro e w1 ⟨rfl,rfl⟩;go_wp2;go_ret2;exact⟨rfl,Ch.refl _ _,trivial⟩
 rw[if_neg hd] at hb ⊢;have h0:¬d<0:=fun e=>hd (.inl e)
 have h1:¬256≤d:=fun e=>hd (.inr (by omega))
 have hol:=fun w1 (a:AN w w1)=>Jb (h.adds a) l
 have hor:=fun w1 (a:AN w w1)=>Jb (h.adds a) r
 rw[L.Ni G] at hol hor;by_cases hsl:Bf σ l
 · rw[if_pos (.inl hsl)] at hb ⊢
   rw[decide_eq_true hsl,Bool.not_true] at hol;have HNO:=Lib.hid hno;have HOL:=Lib.hid hol;clear hno hol hor hb hsl hd;go_enter Tryz.func302,Tryz.ntmps302;go_wp2_with fail;refine HNO.out.mono ?_;rintro e w1 ⟨rfl,rfl⟩;go_wp2_with fail;refine(HOL.out _ (Ch.refl _ _)).mono ?_;rintro e w2 ⟨rfl,a2⟩;have A2:=Lib.hid a2;clear a2;go_wp2;go_ret2;exact⟨rfl,A2.out,trivial⟩
 rw[decide_eq_false hsl,Bool.not_false] at hol;by_cases hsr:Bf σ r
 · rw[if_pos (.inr hsr)] at hb ⊢
   rw[decide_eq_true hsr,Bool.not_true] at hor;have HNO:=Lib.hid hno;have HOL:=Lib.hid hol;have HOR:=Lib.hid hor;clear hno hol hor hb hsl hsr hd;go_enter Tryz.func302,Tryz.ntmps302;go_wp2_with fail;refine HNO.out.mono ?_;rintro e w1 ⟨rfl,rfl⟩;go_wp2_with fail;refine(HOL.out _ (Ch.refl _ _)).mono ?_;rintro e w2 ⟨rfl,a2⟩;have A2:=Lib.hid a2;clear a2;go_wp2_with fail;refine(HOR.out _ A2.out).mono ?_;rintro e w3 ⟨rfl,a3⟩;have A3:=Lib.hid (A2.out.trans a3 (fun _=>fEq));clear a3;go_wp2;go_ret2;exact⟨rfl,A3.out,trivial⟩
 rw[decide_eq_false hsr,Bool.not_false] at hor;rw[if_neg (fun e=>e.elim hsl hsr)] at hb ⊢
 have hasl:l=0∨Store.has σ l=true:=by
  by_cases e:l=0
  · exact .inl e
  right;by_cases e2:Store.has σ l=true
  · exact e2
  exact absurd ⟨e,.inl (by simpa using e2)⟩ hsl
 have hasr:r=0∨Store.has σ r=true:=by
  by_cases e:r=0
  · exact .inl e
  right;by_cases e2:Store.has σ r=true
  · exact e2
  exact absurd ⟨e,.inl (by simpa using e2)⟩ hsr
 obtain⟨dn,rfl⟩:=Int.eq_ofNat_of_zero_le (show 0≤d by omega);have hft:=fun w1 (a:AN w w1)=>N4 (h.adds a) L G (d:=dn) (by omega) hasl hasr
 by_cases hf:fitsB (dn:Int) l r (nd σ l) (nd σ r)=false
 · rw[if_pos hf] at hb ⊢
   simp only[hf] at hft;have HNO:=Lib.hid hno;have HOL:=Lib.hid hol;have HOR:=Lib.hid hor;have HFT:=Lib.hid hft;clear hno hol hor hft hb hsl hsr hd hf hasl hasr;go_enter Tryz.func302,Tryz.ntmps302;go_wp2_with fail;refine HNO.out.mono ?_;rintro e w1 ⟨rfl,rfl⟩;go_wp2_with fail;refine(HOL.out _ (Ch.refl _ _)).mono ?_;rintro e w2 ⟨rfl,a2⟩;have A2:=Lib.hid a2;clear a2;go_wp2_with fail;refine(HOR.out _ A2.out).mono ?_;rintro e w3 ⟨rfl,a3⟩;have A3:=Lib.hid (A2.out.trans a3 (fun _=>fEq));clear a3;go_wp2_with fail;refine(HFT.out _ A3.out).mono ?_;rintro e w4 ⟨rfl,a4⟩;have A4:=Lib.hid (A3.out.trans a4 (fun _=>fEq));clear a4;go_wp2;go_ret2;exact⟨rfl,A4.out,trivial⟩
 rw[if_neg hf] at hb ⊢;have hf1:fitsB (dn:Int) l r (nd σ l) (nd σ r)=true:=by simpa using hf
 simp only[hf1] at hft
 have hu:σ.used=σ.room:=by
  by_cases e:σ.used=σ.room
  · exact e
  exfalso;unfold AG.take at hb;rw[if_neg e] at hb
  revert hb
  cases σ.free.getLast?<;>simp
 have ht:σ.take (BV σ (dn:Int) l r)=(0,9,σ):=by unfold AG.take;rw[if_pos hu]
 rw[ht] at hb ⊢;rw[if_pos (by simp)] at hb ⊢;have hfu:=fun w1 (a:AN w w1)=>Hz (h.adds a)
 rw[(I6 L G.sound.wf).2 hu] at hfu;have HNO:=Lib.hid hno;have HOL:=Lib.hid hol;have HOR:=Lib.hid hor;have HFT:=Lib.hid hft;have HFU:=Lib.hid hfu;clear hno hol hor hft hfu hb hsl hsr hd hf hf1 hasl hasr hu ht;go_enter Tryz.func302,Tryz.ntmps302;go_wp2_with fail;refine HNO.out.mono ?_;rintro e w1 ⟨rfl,rfl⟩;go_wp2_with fail;refine(HOL.out _ (Ch.refl _ _)).mono ?_;rintro e w2 ⟨rfl,a2⟩;have A2:=Lib.hid a2;clear a2;go_wp2_with fail;refine(HOR.out _ A2.out).mono ?_;rintro e w3 ⟨rfl,a3⟩;have A3:=Lib.hid (A2.out.trans a3 (fun _=>fEq));clear a3;go_wp2_with fail;refine(HFT.out _ A3.out).mono ?_;rintro e w4 ⟨rfl,a4⟩;have A4:=Lib.hid (A3.out.trans a4 (fun _=>fEq));clear a4;go_wp2_with fail;refine(HFU.out _ A4.out).mono ?_;rintro e w5 ⟨rfl,a5⟩;have A5:=Lib.hid (A4.out.trans a5 (fun _=>fEq));clear a5;go_wp2;go_ret2;exact⟨rfl,A5.out,trivial⟩
end
theorem IZ {P:Program} {w:World} {ops:Array Oper} {rest:List Oper} {o:Oper} {a:Act} {Q:Exit→Act→World→Prop} (hgd:o.guard=none) (t i j k m:Nat) (x y z u:Operand) (ho:o.op=.build t #[(i,x),(j,y),(k,z),(m,u)])
 (vx vy vz vu:Value) (hx:a.eval x=vx) (hy:a.eval y=vy) (hz:a.eval z=vz) (hu:a.eval u=vu) (cells:Array Value) (hf:P.built t [(i,vx),(j,vy),(k,vz),(m,vu)]=some cells) (h:wpList P ops Q rest (a.put o.dst (.agg cells)) w):wpList P ops Q (o::rest) a w :=
 wpList_build_is hgd t #[(i,x),(j,y),(k,z),(m,u)] ho cells (by simpa[hx,hy,hz,hu] using hf) h
section
variable {w w' : World} {b : Nat} {F : Nat→Prop} {ρ : Rs} {σ : AG Nd}
theorem RMoved.no {G:Nat→Prop} (h:RMoved w w' b G ρ) (hg:∀j,G j↔F j):RMoved w w' b F ρ:=by
 obtain⟨F',h1,h2,h3⟩:=h;exact⟨F',h1,h2.mono (fun j _ hj=>(hg j).1 hj),fun k hk=>(h3 k hk).imp (hg k).1 id⟩
theorem OC (h:RAt w b F ρ) (L:Lk σ ρ) (G:Good σ) {d:Nat} (hd:d≤255) {l r:Int} (hsl:¬Bf σ l) (hsr:¬Bf σ r) (hf:fitsB (d:Int) l r (nd σ l) (nd σ r)=true) (hu:σ.used≠σ.room) :
 Calls Tryz.prog 302 #[.pointer (some ⟨b,0,none⟩),.int .i64 (d:Int),.int .i64 l,.int .i64 r] w fun e w'=>e=.returned (.tuple #[.int .i64 (σ.take (BV σ (d:Int) l r)).1,.int .i64 0]) ∧
  ∃ρ',Lk (bump (bump (σ.take (BV σ (d:Int) l r)).2.2 l (-1)) r (-1)) ρ'∧RMoved w w' b F ρ':=by
 have hno:=Cd h;have hol:=fun w1 (a:AN w w1)=>Jb (h.adds a) l
 have hor:=fun w1 (a:AN w w1)=>Jb (h.adds a) r
 rw[L.Ni G,decide_eq_false hsl,Bool.not_false] at hol;rw[L.Ni G,decide_eq_false hsr,Bool.not_false] at hor
 have has_of:∀ {n:Int},¬Bf σ n→(n=0∨Store.has σ n=true):=fun {n} hn=>by
  by_cases e:n=0
  · exact .inl e
  right;by_cases e2:Store.has σ n=true
  · exact e2
  exact absurd ⟨e,.inl (by simpa using e2)⟩ hn
 have hft:=fun w1 (a:AN w w1)=>N4 (h.adds a) L G hd (has_of hsl) (has_of hsr)
 simp only[hf] at hft;have hfu:=fun w1 (a:AN w w1)=>Hz (h.adds a)
 have hfl:ρ.FG=false:=by
  cases e:ρ.FG
  · rfl
  exact absurd ((I6 L G.sound.wf).1 e) hu
 rw[hfl] at hfu;have sl:=EE.of G.sound hsl;have sr:=EE.of G.sound hsr;obtain⟨wf1,us1,rm1⟩:=sl.wf G.sound.wf (-1);have sr1:=sr.bump sl (PJ hf) (-1);obtain⟨wf2,us2,rm2⟩:=sr1.wf wf1 (-1);have hu1:(Store.bump σ l (-1)).used≠(Store.bump σ l (-1)).room:=by rw[us1,rm1];exact hu
 have hu2:(Store.bump (Store.bump σ l (-1)) r (-1)).used≠(Store.bump (Store.bump σ l (-1)) r (-1)).room:=by rw[us2,rm2];exact hu1
 obtain⟨n,hn⟩:∃n,n=BV σ (d:Int) l r:=⟨_,rfl⟩
 have t1:=Lq G.sound.wf hu n sl (-1);have t2:=Lq wf1 hu1 n sr1 (-1);rw[t1] at t2;rw[←hn]
 have hspof:RC (n,1) (Sp.inner (d:Int) l r).held:=by
  rw[hn];exact .inr ⟨by simp,rfl,rfl,rfl,rfl,fun h=>(by cases h),fun _=>rfl,rfl,rfl⟩
 obtain⟨X,hX⟩:∃X,X=Sp.inner (d:Int) l r:=⟨_,rfl⟩
 have hbt:=Kr (d:Int) l r;rw[←hX] at hbt hspof
 have hXo:X.Ok∧(0≤X.sides∧X.sides≤2147483648)∧X.addr=.slice none 0 0∧X.value = []:=by
  rw[hX];exact⟨⟨rfl,⟨_,_,_,rfl⟩,by show(0:Nat)≤_;omega⟩,⟨Int.le_refl 0,by show(0:Int)≤_;omega⟩,rfl,rfl⟩
 have HNO:=Lib.hid hno;have HOL:=Lib.hid hol;have HOR:=Lib.hid hor;have HFT:=Lib.hid hft;have HFU:=Lib.hid hfu;have HOV:=Lib.hid (fun w1 (a:AN w w1)=>Ji (h.adds a) L sl);have HS:=(hIq sr1 (aIq wf2 (aIq hu2 (aIq t2 (aIq hspof hXo)))))
 obtain⟨N,hN⟩:∃N,N=X.cells:=⟨_,rfl⟩
 rw[←hN] at hbt;have HB:=(hIq hbt hN)
 clear hno hol hor hft hfu hsl hsr hf hu has_of hfl sl sr wf1 us1 rm1 sr1 wf2 us2 rm2 hu1 hu2 hn t1 t2 hspof hX hbt hXo hN h L G;have e0:¬(d:Int)<0:=by omega
 have e1:¬256≤(d:Int):=by omega
 go_enter Tryz.func302,Tryz.ntmps302;go_wp2_with fail;refine HNO.out.mono ?_;rintro e w1 ⟨rfl,rfl⟩;go_wp2_with fail;refine(HOL.out _ (Ch.refl _ _)).mono ?_;rintro e w2 ⟨rfl,a2⟩;have A2:=Lib.hid a2;clear a2;go_wp2_with fail;refine(HOR.out _ A2.out).mono ?_;rintro e w3 ⟨rfl,a3⟩;have A3:=Lib.hid (A2.out.trans a3 (fun _=>fEq));clear a3;go_wp2_with fail;refine(HFT.out _ A3.out).mono ?_;rintro e w4 ⟨rfl,a4⟩;have A4:=Lib.hid (A3.out.trans a4 (fun _=>fEq));clear a4;go_wp2_with fail;refine(HFU.out _ A4.out).mono ?_;rintro e w5 ⟨rfl,a5⟩;have A5:=Lib.hid (A4.out.trans a5 (fun _=>fEq));clear a5;go_wp2_with fail;refine(HOV.out _ A5.out).mono ?_;rintro e w6 ⟨rfl,hm1,L1⟩;have M1:=(hIq hm1 L1)
 clear hm1 L1;obtain⟨F1,r1,m1⟩:=M1.out.1;have R1:=(hIq r1 m1)
 clear r1 m1;go_wp2_with fail;refine(Ji R1.out.1 M1.out.2 HS.out.1).mono ?_;rintro e w7 ⟨rfl,hm2,L2⟩;have M2:=(hIq hm2 L2)
 clear hm2 L2;obtain⟨F2,r2,m2⟩:=M2.out.1;have R2:=(hIq r2 m2)
 clear r2 m2
 have hfu2:((ρ.GN l).GN r).FG=false:=by
  cases e:((ρ.GN l).GN r).FG
  · rfl
  exact absurd ((I6 M2.out.2 HS.out.2.1).1 e) HS.out.2.2.1
 have htk:=N0 R2.out.1 X HS.out.2.2.2.2.2.1 HS.out.2.2.2.2.2.2.1 (by rw[HS.out.2.2.2.2.2.2.2.1,HS.out.2.2.2.2.2.2.2.2];exact Bytes.nil _) (fun k hk=>by rw[HS.out.2.2.2.2.2.2.2.1] at hk;cases hk) hfu2;rw[←HB.out.2] at htk;have HT:=Lib.hid htk;clear htk hfu2
 go_wp2_with (first
  | fail
  | ((with_reducible show zOq (.build 262 _));refine IZ rfl 262 0 1 3 4 (.const (.int .u8 2)) (.tmp 43) (.tmp 44) (.tmp 45) rfl (.int .u8 2) (.int .i64 (d:Int)) (.int .i64 l) (.int .i64 r) rfl rfl rfl rfl _ HB.out.1 ?_))
 refine HT.out.mono ?_;rintro e w8 ⟨rfl,hm3⟩;have M3:=Lib.hid hm3;clear hm3;go_wp2;go_ret2;obtain⟨q1,q2,q3⟩:=M2.out.2.take HS.out.2.1 HS.out.2.2.2.2.1 HS.out.2.2.1;rw[HS.out.2.2.2.1] at q1 q3;refine⟨by rw[q1];rfl,_,q3,?_⟩;have hm3:=M3.out.no (F:=F2) (fun j=>⟨fun h=>h.elim id (fun h=>by rw[HS.out.2.2.2.2.2.2.2.1] at h;cases h),.inl⟩);refine RMoved.from A5.out ?_;obtain⟨F3,z1,z2,z3⟩:=hm3;obtain⟨x1,x2⟩:=R1.out.2;obtain⟨y1,y2⟩:=R2.out.2;have c1:=x1.trans y1 x2;have f2:∀k,F2 k→F k∨w5.heap.size≤k:=fun k hk=>(y2 k hk).elim (x2 k) (fun h=>.inr (Nat.le_trans x1.size h))
 have c2:=c1.trans z2 f2;exact⟨F3,z1,c2,fun k hk=>(z3 k hk).elim (f2 k) (fun h=>.inr (Nat.le_trans c1.size h))⟩
theorem RI (h:RAt w b F ρ) (L:Lk σ ρ) (G:Good σ) (d l r:Int) :
 Calls Tryz.prog 302 #[.pointer (some ⟨b,0,none⟩),.int .i64 d,.int .i64 l,.int .i64 r] w fun e w'=>e=.returned (.tuple #[.int .i64 (Ag σ d l r).1,.int .i64 (Ag σ d l r).2.1])∧∃ρ',Lk (Ag σ d l r).2.2 ρ'∧RMoved w w' b F ρ':=by
 by_cases hb:(Ag σ d l r).2.1=0
 · unfold Ag at hb ⊢
   by_cases hd:d<0∨255<d
   · rw[if_pos hd] at hb;cases hb
   rw[if_neg hd] at hb ⊢;by_cases hs:Bf σ l∨Bf σ r
   · rw[if_pos hs] at hb;cases hb
   rw[if_neg hs] at hb ⊢;by_cases hf:fitsB d l r (nd σ l) (nd σ r)=false
   · rw[if_pos hf] at hb;cases hb
   rw[if_neg hf] at hb ⊢
   have hu:σ.used≠σ.room:=fun e=>by
    unfold AG.take at hb;rw[if_pos e] at hb;rw[if_pos (by simp)] at hb;cases hb
   have ht:(σ.take (BV σ d l r)).2.1=0:=by
    unfold AG.take;rw[if_neg hu];split<;>rfl
   rw[if_neg (by rw[ht];simp)];obtain⟨dn,rfl⟩:=Int.eq_ofNat_of_zero_le (show 0≤d by omega);exact OC h L G (by omega) (fun e=>hs (.inl e)) (fun e=>hs (.inr e)) (by simpa using hf) hu
 refine(OL h L G d l r hb).mono ?_;rintro e w' ⟨he,ha,hs⟩;rw[hs];exact⟨he,ρ,L,RMoved.same h ha⟩
end
theorem JD (n:Nd) (st rest:List Int):pile n (st++rest)=pile n st++rest:=by simp[Store.pile,List.append_assoc]
theorem L8 (σ:AG Nd) (st:List Int) (f:Nat) (rest:List Int):sweep σ (st++rest) f=sweep (sweep σ st f).2 rest (sweep σ st f).1:=by
 induction σ,st,f using sweep.induct with
 | case1 σ f=>rw[CK];rfl
 | case2 σ f h st hd ih =>
  rw[CE hd,List.cons_append,CE hd,JD];exact ih
 | case3 σ f h st hd ih =>
  have hd:(σ.drop Nd.zero h).1=false:=by simpa using hd
  rw[CD hd,List.cons_append,CD hd];exact ih
theorem M5 (σ:AG Nd) (st:List Int) (f:Nat):∀k,sweep σ st (f+k)=((sweep σ st f).1+k,(sweep σ st f).2):=by
 induction σ,st,f using sweep.induct with
 | case1 σ f=>intro k;rw[CK,CK]
 | case2 σ f h st hd ih =>
  intro k;rw[CE hd,CE hd,show f+k+1=f+1+k by omega];exact ih k
 | case3 σ f h st hd ih =>
  intro k;have hd:(σ.drop Nd.zero h).1=false:=by simpa using hd
  rw[CD hd,CD hd];exact ih k
theorem KM (σ:AG Nd) (st:List Int) (k:Nat):sweep σ st k=((sweep σ st 0).1+k,(sweep σ st 0).2):=by
 have:=M5 σ st 0 k
 rwa [Nat.zero_add] at this
theorem Kf (σ:AG Nd) (st:List Int) (f:Nat):∀rest,Sound σ (st++rest)→Sound (sweep σ st f).2 rest∧(sweep σ st f).1+live (sweep σ st f).2=f+live σ∧total (sweep σ st f).2≤total σ∧(∀k y,(sweep σ st f).2.get? k=some y→∃c,σ.get? k=some (y.1,c)):=by
 induction σ,st,f using sweep.induct with
 | case1 σ f=>intro rest hs;rw[CK];exact⟨hs,rfl,Nat.le_refl _,fun k y hy=>⟨y.2,hy⟩⟩
 | case2 σ f h st hd ih =>
  intro rest hs;rw[CE hd];have h1:=Sound.dropped (rest:=st++rest) hs;rw[if_pos hd,JD] at h1;obtain⟨q1,q2,q3,q4⟩:=ih rest h1;have h2:=Gh hd;obtain⟨x,hx,_⟩:=Eg hd;have h3:=Cl hx;exact⟨q1,by omega,by omega,fun k y hy=>by obtain⟨c,hc⟩:=q4 k y hy;exact Ie (y:=(y.1,c)) hc⟩
 | case3 σ f h st hd ih =>
  intro rest hs;have hd:(σ.drop Nd.zero h).1=false:=by simpa using hd
  rw[CD hd];have h1:=Sound.dropped (rest:=st++rest) hs;rw[if_neg (by rw[hd];simp)] at h1;obtain⟨q1,q2,q3,q4⟩:=ih rest h1;have h2:=GX hd;obtain⟨x,hx⟩:=hs.pile h (List.mem_cons_self ..);have h3:=Cl hx;exact⟨q1,by omega,by omega,fun k y hy=>by obtain⟨c,hc⟩:=q4 k y hy;exact Ie (y:=(y.1,c)) hc⟩
structure LkD (σ:AG Nd) (ρ:Rs) (m:Nat) (s:Nd×Nat) (x:Sp):Prop where
 space:ρ.space=σ.room
 free:ρ.free=σ.free
 len:ρ.spots.length=σ.slots.length
 hs:σ.slots[m]?=some s
 hx:ρ.spots[m]?=some x
 live:s.2≠0
 fits:x.kind=s.1.kind∧x.left=s.1.left∧x.right=s.1.right∧x.value=s.1.value∧(s.1.kind=1→x.key=s.1.key)∧(s.1.kind=2→x.d=s.1.depth)∧x.own=s.1.held∧x.own+x.sides+1=(s.2:Int)
 slot:∀(j:Nat) t y,j≠m→σ.slots[j]?=some t→ρ.spots[j]?=some y→RC t y
section
variable {ρ : Rs} {σ : AG Nd} {m : Nat} {s : Nd×Nat} {x : Sp}
theorem LkD.get (L:LkD σ ρ m s x):σ.get? ((m:Int)+1)=some s:=AG.Ij L.hs L.live
theorem LkD.Ae (L:LkD σ ρ m s x) (h:s.2≠1):(σ.drop Nd.zero ((m:Int)+1)).1=false∧Lk (σ.drop Nd.zero ((m:Int)+1)).2.2 ρ:=by
 have hd:σ.drop Nd.zero ((m:Int)+1)=(false,0,σ.setAt ((m:Int)+1) (s.1,s.2-1)):=by unfold AG.drop;rw[L.get];simp only[if_neg h]
 rw[hd];refine⟨rfl,?_⟩;have hm:=(List.getElem?_eq_some_iff.1 L.hs).1;simp only[AG.setAt,show((m:Int)+1-1).toNat=m by omega];refine⟨L.space,L.free,by simp[L.len],fun j t y ht hy=>?_⟩;simp only at ht;by_cases e:j=m
 · subst e
   rw[List.getElem?_set_self hm] at ht;rw[L.hx] at hy;cases ht;cases hy;obtain⟨a1,a2,a3,a4,a5,a6,a7,a8⟩:=L.fits;have:=L.live;exact .inr ⟨by show s.2-1≠0;omega,a1,a2,a3,a4,a5,a6,a7,by show x.own+x.sides=((s.2-1:Nat):Int);omega⟩
 rw[List.getElem?_set_ne (Ne.symm e)] at ht;exact L.slot j t y e ht hy
def Rs.freed (ρ:Rs) (m:Nat):Rs := { ρ with spots:=ρ.spots.set m Sp.zero,free:=ρ.free ++ [m+1] }
theorem LkD.go (L:LkD σ ρ m s x) (h:s.2=1):(σ.drop Nd.zero ((m:Int)+1)).1=true∧Lk (σ.drop Nd.zero ((m:Int)+1)).2.2 (ρ.freed m):=by
 have hd:σ.drop Nd.zero ((m:Int)+1)=(true,0, { σ.setAt ((m:Int)+1) (Nd.zero,0) with free:=σ.free ++ [((m:Int)+1).toNat] }):=by unfold AG.drop;rw[L.get];simp only[if_pos h]
 rw[hd];refine⟨rfl,?_⟩;have hm:=(List.getElem?_eq_some_iff.1 L.hs).1;have hm2:=(List.getElem?_eq_some_iff.1 L.hx).1;simp only[AG.setAt,show((m:Int)+1-1).toNat=m by omega];refine⟨L.space,by show ρ.free ++ [m+1]=σ.free ++ [((m:Int)+1).toNat];rw[L.free,show((m:Int)+1).toNat=m+1 by omega],by simp[Rs.freed,L.len],fun j t y ht hy=>?_⟩;simp only[Rs.freed] at ht hy;by_cases e:j=m
 · subst e
   rw[List.getElem?_set_self hm] at ht;rw[List.getElem?_set_self hm2] at hy;cases ht;cases hy;exact .inl ⟨rfl,rfl⟩
 rw[List.getElem?_set_ne (Ne.symm e)] at ht hy;exact L.slot j t y e ht hy
def Sp.less (x:Sp):Sp := { x with sides:=x.sides-1 }
theorem Lk.owe (L:Lk σ ρ) {h:Int} {rest:List Int} (hs:Sound σ (h::rest)):∃(m:Nat) (s:Nd×Nat) (x:Sp),h=(m:Int)+1∧ρ.spots[m]?=Option.some x∧1≤x.sides∧LkD σ (ρ.setAt m x.less) m s x.less:=by
 obtain⟨s,hx⟩:=hs.pile h (List.mem_cons_self ..);obtain⟨m,rfl,hm,h0,hlt⟩:=AG.Ac hx;have hlr:m<ρ.spots.length:=by rw[L.len];exact hlt
 have hc:=hs.counts _ s hx;rw[List.count_cons_self] at hc;rcases L.slot m s _ hm (List.getElem?_eq_getElem hlr) with⟨e,_⟩|⟨_,h1,h2,h3,h4,h5,h6,h7,h8⟩
 · exact absurd e h0
 refine⟨m,s,ρ.spots[m],rfl,List.getElem?_eq_getElem hlr,by omega,⟨L.space,L.free,by simp[Rs.setAt,L.len],hm,List.getElem?_set_self hlr,h0,⟨h1,h2,h3,h4,h5,h6,h7,?_⟩,fun j t y hj ht hy=>?_⟩⟩
 · show ρ.spots[m].own+(ρ.spots[m].sides-1)+1=(s.2:Int)
   omega
 unfold Rs.setAt at hy;simp only at hy;rw[List.getElem?_set_ne (Ne.symm hj)] at hy;exact L.slot j t y ht hy
end
end Go.Proofs.YtngbdbpofifimaaGreat.Store

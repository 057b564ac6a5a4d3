/- Laws of the layers below. -/
import Derived.Test.YtngbdbpofifimaaGreatQm21
import Derived.Test.YtngbdbpofifimaaGreatQm24
set_option maxHeartbeats 3200000
set_option maxRecDepth 100000
set_option linter.unusedVariables false
namespace Go.Proofs.YtngbdbpofifimaaGreat.Store
open Go.RowKit Go.Proofs.YtngbdbpofifimaaGreat.ShaW Go.Proofs.YtngbdbpofifimaaGreat.Path
theorem U8 (n:Int) (w:World) (h1:1≤n) (h2:n≤65536) :
 Calls Tryz.prog 153 #[.int .i64 n] w fun e w'=>∃b F,e=.returned (.tuple #[.pointer (some ⟨b,0,none⟩),.int .i64 0])∧RAt w' b F ⟨n.toNat,[],[]⟩∧(∀k,F k→w.heap.size≤k)∧AN w w':=by
 have hr:RAt (w.alloc (.cells #[.bool true,.int .i64 n,.slice none 0 0,.slice none 0 0] 319)) w.heap.size (fun k=>k=w.heap.size) ⟨n.toNat,[],[]⟩:=by
  refine⟨⟨by show 1≤n.toNat∧n.toNat≤65536;omega,Nat.zero_le _,fun n hn=>(by cases hn),Nat.le_refl _,fun x hx=>(by cases hx)⟩,.slice none 0 0,.slice none 0 0,?_,World.ownsRow_nil ..,World.ownsRow_nil ..,fun x hx=>(by cases hx),rfl,fun k hk=>(by cases hk),fun k hk=>(by cases hk),fun k hk=>?_⟩
  · have:=heap_alloc_new w (.cells #[.bool true,.int .i64 n,.slice none 0 0,.slice none 0 0] 319)
    rw[show((⟨n.toNat,[],[]⟩:Rs).space:Int)=n by show((n.toNat:Nat):Int)=n;omega];exact this
  subst hk;simp
 have HR:=Lib.hid hr;clear hr;have hbt:Tryz.prog.built 319 [(0,.bool true),(1,.int .i64 n)]=some #[.bool true,.int .i64 n,.slice none 0 0,.slice none 0 0]:=by kernel_rfl
 have d1:decide (n<1)=false:=decide_eq_false (by omega);have d2:decide ((65536:Int)<n)=false:=decide_eq_false (by omega);go_enter Tryz.func153,Tryz.ntmps153;go_wp2;go_ret2;exact⟨_,_,rfl,HR.out,fun k hk=>by rw[hk];exact Nat.le_refl _,(Ch.refl _ _).alloc _⟩
theorem NA:∃i fs,Tryz.prog.info? 262=some i∧i.zero=some (.agg Sp.zero.cells)∧Tryz.prog.underlying 262=some (.struct fs) ∧
 fs.toList.mapM (fun f=>(Tryz.prog.info? f.type).map fun i=>(f.offset,i.size))=some [(0,1),(1,1),(2,33),(35,1),(36,1),(37,1),(38,1)]:=by
 obtain⟨i,hi⟩:∃i,Tryz.prog.info? 262=some i:=Option.isSome_iff_exists.1 (by kernel_rfl);have hz:(Tryz.prog.info? 262).bind (·.zero)=some (.agg Sp.zero.cells):=by kernel_rfl
 rw[hi] at hz;exact⟨i,_,hi,hz,Tryz.underlying262,by kernel_rfl⟩
def Sp.leaf (K:List UInt8) (v:Value) (bs:List UInt8):Sp:=⟨1,0,K,v,bs,0,0,0,0⟩
def Sp.inner (d l r:Int):Sp:=⟨2,d,Nd.z32,.slice none 0 0,[],l,r,0,0⟩
theorem Kv (K:List UInt8) (hK:K.length=32) (ao:Option Addr) (n c:Nat) (bs:List UInt8) :
 Tryz.prog.built 262 [(0,.int .u8 1),(2,.agg (AS K++#[.slice ao n c]))]=some (Sp.leaf K (.slice ao n c) bs).cells:=by
 obtain⟨i,fs,h1,h2,h3,h4⟩:=NA;unfold Program.built;rw[h1,h3];simp only[h2,h4]
 show Instr.fill _ Sp.zero.cells _=_
 rw[BH (off:=0) (size:=1) rfl rfl (by rw[Sp.AY Sp.BP];omega)];rw[BH (off:=2) (size:=33) rfl (by simp[Value.cells,AU,hK]) (by simp[splice,Sp.AY Sp.BP,Value.cells])]
 show some _=some _
 congr 1
 apply Array.ext';have e:(Value.agg (AS K++#[.slice ao n c])).cells.toList=K.map bv ++ [.slice ao n c]:=by simp[Value.cells,AS]
 rw[e]
 show(splice (splice Sp.zero.cells.toList 0 [Value.int .u8 1]) 2 (K.map bv ++ [.slice ao n c]))=_
 rw[Sp.Aj];unfold splice;rw[show 2+(K.map bv ++ [Value.slice ao n c]).length=35 by simp[hK]]
 show [Value.int .u8 1,.int .i64 0]++(K.map bv ++ [.slice ao n c]) ++ [Value.int .i64 0,.int .i64 0,.int .i64 0,.int .i64 0]=_
 simp[Sp.leaf,Sp.cells]
theorem Kr (d l r:Int):Tryz.prog.built 262 [(0,.int .u8 2),(1,.int .i64 d),(3,.int .i64 l),(4,.int .i64 r)]=some (Sp.inner d l r).cells:=by
 kernel_rfl
section
variable {w w' : World} {b : Nat} {F : Nat→Prop} {ρ : Rs} {σ : AG Nd}
theorem LR (h:RAt w b F ρ) (key:Array Value) {vv:Value} {bs:List UInt8} (hb:Bytes w vv bs) {c:Int} (hc:(1024<bs.length∧c=4)∨(bs.length≤1024∧ρ.FG=true∧c=9)) :
 Calls Tryz.prog 259 #[.pointer (some ⟨b,0,none⟩),.agg key,vv] w fun e w'=>e=.returned (.tuple #[.int .i64 0,.int .i64 c])∧AN w w':=by
 have a0:AN w (w.alloc (.cells key 47)):=(Ch.refl _ w).alloc _;have HN:=Lib.hid (Cd (h.adds a0));have hfu:=Hz (h.adds a0);obtain⟨ao,cap,rfl,_⟩:=hb.form;obtain⟨n,hn⟩:∃n,n=bs.length:=⟨_,rfl⟩
 rw[←hn] at hc ⊢;rcases hc with⟨h1,rfl⟩|⟨h1,h2,rfl⟩
 · have d1:decide ((1024:Int)<(n:Int))=true:=decide_eq_true (by omega)
   clear hfu hb hn h1 h a0;go_enter Tryz.func259,Tryz.ntmps259;go_wp2_with fail;refine HN.out.mono ?_;rintro e w1 ⟨rfl,rfl⟩;go_wp2;go_ret2;exact⟨rfl,(Ch.refl _ _).alloc _⟩
 have d1:decide ((1024:Int)<(n:Int))=false:=decide_eq_false (by omega);rw[h2] at hfu;have HF:=Lib.hid hfu;clear hfu hb hn h1 h2 h a0;go_enter Tryz.func259,Tryz.ntmps259;go_wp2_with fail;refine HN.out.mono ?_;rintro e w1 ⟨rfl,rfl⟩;go_wp2_with fail;refine HF.out.mono ?_;rintro e w1 ⟨rfl,a1⟩;have A1:=Lib.hid a1;clear a1;go_wp2;go_ret2;exact⟨rfl,((Ch.refl (fun _=>False) w).alloc _).trans A1.out (fun _=>fEq)⟩
theorem O3 (h:RAt w b F ρ) (key:List UInt8) (hk:key.length=32) {vv:Value} {bs:List UInt8} (hb:Bytes w vv bs) (hl:bs.length≤1024) (hfull:ρ.FG=false) :
 Calls Tryz.prog 259 #[.pointer (some ⟨b,0,none⟩),.agg (AS key),vv] w fun e w'=>∃v',e=.returned (.tuple #[.int .i64 (ρ.take (Sp.leaf key v' bs)).1,.int .i64 0])∧RMoved w w' b F (ρ.take (Sp.leaf key v' bs)).2:=by
 obtain⟨K,hK⟩:∃K,K=AS key:=⟨_,rfl⟩
 have hKs:K.size=32:=by rw[hK,AU,hk]
 have a0:AN w (w.alloc (.cells K 47)):=(Ch.refl _ w).alloc _;have HN:=Lib.hid (Cd (h.adds a0));have hfu:=Hz (h.adds a0);rw[hfull] at hfu;have HF:=Lib.hid hfu;have hbw:=hb;obtain⟨ao,cap,rfl,_⟩:=hb.form;obtain⟨n,hn⟩:∃n,n=bs.length:=⟨_,rfl⟩
 rw[←hn] at hbw ⊢;have d1:decide ((1024:Int)<(n:Int))=false:=decide_eq_false (by omega);obtain⟨i0,p1,p2,p3,p4⟩:=Mz;have HI:=(hIq p1 (aIq p2 (aIq p3 p4)))
 have HKK:=(hIq hKs (aIq hK hk))
 have HB:=(hIq hbw (aIq hl hn))
 have HR:=(hIq h hfull)
 rw[←hK];clear hK hKs a0 hfu hb hbw hn hl p1 p2 p3 p4 hk h hfull;go_enter Tryz.func259,Tryz.ntmps259;go_wp2_with fail;refine HN.out.mono ?_;rintro e w1 ⟨rfl,rfl⟩;go_wp2_with fail;refine HF.out.mono ?_;rintro e w2 ⟨rfl,a2⟩;have A2:=(hIq (((Ch.refl (fun _=>False) w).alloc (.cells K 47)).trans a2 (fun _=>fEq)) (a2.row (heap_alloc_new w (.cells K 47)) id))
 clear a2 HN HF;go_wp2;refine AP (fun wz=>wz.heap[w.heap.size]?=some (.cells K 47 (0,0))) 10 [(0,false),(1,false),(2,false),(3,false),(4,true),(5,false),(6,false),(7,true),(8,false),(9,false)] (by kernel_rfl) (by kernel_rfl) ?_ ?_
 · exact AM A2.out.2
 refine plan_look rfl rfl (fun w0 hS=>(by clear hS;go_simp;try rfl)) ?_;simp only[Act.put,nAq,nBq,nCq];refine Aa (cur:=K) (t:=47) (fr:=(0,0)) rfl rfl 47 _ rfl w.heap.size 0 32 rfl (fun w0 hS=>hS) Tryz.underlying47 rfl Ab (by rw[HKK.out.1];omega) K (by have:=HKK.out.1;simp[←this]) ?_;simp only[Act.put,nAq,nBq,nCq]
 iterate 2
  refine plan_look rfl rfl (fun w0 hS=>(by clear hS;go_simp;try rfl)) ?_;simp only[Act.put,nAq,nBq,nCq]
 refine AW rfl ?_;have a2d:AN w w2.drew:=A2.out.1.trans (Ch.refl (fun _=>False) w2).drew (fun _=>fEq);refine DK rfl _ _ 29 rfl 5 i0 Tryz.underlying29 HI.out.1 HI.out.2.1 HI.out.2.2.1 HI.out.2.2.2 rfl _ rfl bs (HB.out.1.Ae a2d (fun _ _ h=>h)) (by have:=HB.out.2.1;omega) ?_;intro v' w4 hb4 hk4 hc4;obtain⟨av,cv,rfl,_⟩:=hb4.form;have A4:=(hIq (a2d.trans hc4 (fun _=>fEq)) (aIq (hc4.row (AM A2.out.2) id) (aIq hb4 hk4)))
 clear hb4 hk4 hc4 a2d;refine wpList_nil ?_;change _∧_;refine⟨A4.out.2.1,?_⟩;simp only[Act.put,nAq,nBq,nCq];have hbt:=Kv key HKK.out.2.2 av bs.length cv bs;rw[←HKK.out.2.1] at hbt;obtain⟨E,hE⟩:∃E,E=K++#[Value.slice av bs.length cv]:=⟨_,rfl⟩
 have hpt:=Gy K av bs.length cv HKK.out.1;rw[←hE] at hbt hpt;obtain⟨N,hN⟩:∃N,N=(Sp.leaf key (.slice av bs.length cv) bs).cells:=⟨_,rfl⟩
 rw[←hN] at hbt;refine Cm rfl rfl 86 0 1 (.tmp 17) (.tmp 20) rfl (.agg K) (.slice av bs.length cv) rfl rfl _ hpt ?_;simp only[Act.put,nAq,nBq,nCq];refine Cm rfl rfl 262 0 2 (.const (.int .u8 1)) (.tmp 21) rfl (.int .u8 1) (.agg E) rfl rfl _ hbt ?_;simp only[Act.put,nAq,nBq,nCq]
 have htk:=N0 (HR.out.1.adds A4.out.1) (Sp.leaf key (.slice av bs.length cv) bs) ⟨HKK.out.2.2,⟨_,_,_,rfl⟩,HB.out.2.1⟩ ⟨by show(0:Int)≤0;decide,by show(0:Int)≤2147483648;decide⟩ A4.out.2.2.1 (fun j hj=>by
  obtain⟨q1,q2⟩:=A4.out.2.2.2 j hj;refine⟨fun hf=>?_,q2⟩;obtain⟨_,_,_,_,_,_,_,_,_,_,h8⟩:=HR.out.1;have:=h8 j hf;have h9:=A2.out.1.size;have h10:w2.drew.heap.size=w2.heap.size:=rfl;omega) HR.out.2
 rw[←hN] at htk;have HTK:=Lib.hid htk;clear htk hbt hpt hE hN;refine AW rfl ?_;go_wp2_with fail;refine HTK.out.mono ?_;rintro e w5 ⟨rfl,hm⟩
 have hB5:w5.heap[w.heap.size]?=some (.cells K 47 (0,0)):=by
  obtain⟨F',g1,g2,g3⟩:=hm;refine g2.row A4.out.2.1 (fun hf=>?_);rcases hf with hf|hf
  · obtain⟨_,_,_,_,_,_,_,_,_,_,h8⟩:=HR.out.1
    have:=h8 _ hf;omega
  have h1:=(A4.out.2.2.2 _ hf).1;have h9:=Ad A2.out.2;have h10:w2.drew.heap.size=w2.heap.size:=rfl;omega
 have hm':RMoved w w5 b F (ρ.take (Sp.leaf key (.slice av bs.length cv) bs)).2:=by
  obtain⟨F',g1,g2,g3⟩:=hm
  have hnew:∀j,(Sp.leaf key (.slice av bs.length cv) bs).addr.ownBlock=some j→w.heap.size≤j:=fun j hj=>by
   have h1:=(A4.out.2.2.2 j hj).1;have h9:=A2.out.1.size;have h10:w2.drew.heap.size=w2.heap.size:=rfl;omega
  refine⟨F',g1,(A4.out.1.mono (G:=F) (fun _ _ h=>h.elim)).trans g2 (fun j hj=>hj.imp id (hnew j)),fun j hj=>?_⟩;rcases g3 j hj with(h|h)|h
  · exact .inl h
  · exact .inr (hnew j h)
  exact .inr (Nat.le_trans A4.out.1.size h)
 have H5:=Lib.hid hm';clear hm hm' HTK;dsimp only;go_step;refine wpList_nil ?_;change _∧_;refine⟨hB5,?_⟩;clear hB5
 iterate 2
  refine plan_look rfl rfl (fun w0 hS=>(by clear hS;go_simp;try rfl)) ?_;simp only[Act.put,nAq,nBq,nCq]
 refine AZ ?_;simp only[List.drop_succ_cons,List.drop_zero];go_wp2;refine NoPanic.normal ?_;go_wp2;go_ret2;exact⟨_,rfl,H5.out⟩
theorem TR (h:RAt w b F ρ) (L:Lk σ ρ) (G:Good σ) (key:List UInt8) (hk:key.length=32) {vv:Value} {bs:List UInt8} (hb:Bytes w vv bs) (v:Value) :
 Calls Tryz.prog 259 #[.pointer (some ⟨b,0,none⟩),.agg (AS key),vv] w fun e w'=>e=.returned (.tuple #[.int .i64 (As σ key bs v).1,.int .i64 (As σ key bs v).2.1])∧∃ρ',Lk (As σ key bs v).2.2 ρ'∧RMoved w w' b F ρ':=by
 unfold As;by_cases h1:1024<bs.length
 · rw[if_pos h1]
   exact(LR h (AS key) hb (.inl ⟨h1,rfl⟩)).mono fun e w' ⟨he,a⟩=>⟨he,ρ,L,RMoved.same h a⟩
 rw[if_neg h1];have hf:=L.full G.sound.wf;by_cases hu:σ.used=σ.room
 · rw[decide_eq_true hu] at hf
   have ht:σ.take (Nd.leaf (Tag.D4 key (Tag.Bb bs)) key (Tag.Bb bs) bs v)=(0,9,σ):=by unfold AG.take;rw[if_pos hu]
   rw[ht];exact(LR h (AS key) hb (.inr ⟨by omega,hf,rfl⟩)).mono fun e w' ⟨he,a⟩=>⟨he,ρ,L,RMoved.same h a⟩
 rw[decide_eq_false hu] at hf;refine(O3 h key hk hb (by omega) hf).mono ?_;rintro e w' ⟨v',rfl,hm⟩;obtain⟨t1,t2,t3⟩:=L.take G.sound.wf (n:=Nd.leaf (Tag.D4 key (Tag.Bb bs)) key (Tag.Bb bs) bs v) (x:=Sp.leaf key v' bs) (.inr ⟨by simp,rfl,rfl,rfl,rfl,fun _=>rfl,fun h=>(by cases h),rfl,rfl⟩) hu;exact⟨by rw[t1,t2],_,t3,hm⟩
end
section
variable {w w' : World} {b : Nat} {F : Nat→Prop} {ρ : Rs} {σ : AG Nd}
theorem Gw {n:Int} (hh:Store.has σ n=true):∃s,σ.get? n=some s:=by
 unfold Store.has at hh;cases hx:σ.get? n with
 | none=>rw[hx] at hh;cases hh
 | some x=>exact⟨x,rfl⟩
theorem Cq {m:Nat} {s:Nd×Nat} (hs:σ.slots[m]?=some s) (h0:s.2≠0) (d:Int):bump σ ((m:Int)+1) d = { σ with slots:=σ.slots.set m (BC s.1 (wrap64 (s.1.held+d)),s.2) }:=by
 have hx:=AG.Ij hs h0;unfold Store.bump;rw[if_pos (CF hx),Ap hx];unfold AG.set;rw[hx];simp only[AG.setAt];rw[show((m:Int)+1-1).toNat=m by omega]
theorem O8 {m:Nat} {s:Nd×Nat} (hs:σ.slots[m]?=some s) (h0:s.2≠0) (h1:s.2≠1073741824):Au σ ((m:Int)+1)=(0, { σ with slots:=σ.slots.set m (BC s.1 (wrap64 (s.1.held+1)),s.2+1) }):=by
 have hx:=AG.Ij hs h0;have hlt:=(List.getElem?_eq_some_iff.1 hs).1
 have e:σ.hold ((m:Int)+1)=(0, { σ with slots:=σ.slots.set m (s.1,s.2+1) }):=by
  unfold AG.hold;rw[hx];simp only;rw[if_neg h1];simp only[AG.setAt];rw[show((m:Int)+1-1).toNat=m by omega]
 unfold Au;rw[e,if_pos rfl,Cq (s:=(s.1,s.2+1)) (by rw[List.getElem?_set_self hlt]) (by simp)];simp
theorem Sound.ER (hs:Sound σ []) {n:Int} {s:Nd×Nat} (hx:σ.get? n=some s):0≤s.1.held∧s.1.held≤(s.2:Int)∧s.2≤1073741824:=by
 have h1:=hs.counts n s hx;have h2:=hs.held n s hx;obtain⟨m,_,hm,_,_⟩:=AG.Ac hx;have h3:=hs.wf.counts s (List.mem_of_getElem? hm);simp only[List.count_nil] at h1;omega
theorem Tu (h:RAt w b F ρ) (L:Lk σ ρ) (G:Good σ) (n:Int) :
 Calls Tryz.prog 155 #[.pointer (some ⟨b,0,none⟩),.int .i64 n] w fun e w'=>e=.returned (.int .i64 (Au σ n).1)∧∃ρ',Lk (Au σ n).2 ρ'∧RMoved w w' b F ρ':=by
 refine(Ss h n).mono ?_;rintro e w' ⟨rfl,hm⟩;cases hs:σ.get? n with
 | none =>
  have h1:ρ.DE n=7:=by unfold Rs.DE;rw[L.has G,Dz hs,if_pos rfl]
  have h2:Au σ n=(7,σ):=by unfold Au AG.hold;rw[hs];rfl
  rw[h1,if_neg (by omega)] at hm;rw[h1,h2];exact⟨rfl,ρ,L,hm⟩
 | some s =>
  obtain⟨m,x,rfl,hlt,hsm,hx,h0,hsp,hk,hk0,hle,hri,hv,hkey,hd,ho,hos⟩:=L.some G hs;obtain⟨b1,b2,b3⟩:=G.sound.ER hs;have hh:ρ.has ((m:Int)+1)=true:=by rw[L.has G,CF hs]
  by_cases hmax:s.2=1073741824
  · have h1:ρ.DE ((m:Int)+1)=4:=by unfold Rs.DE;rw[hh,if_neg (by simp),hsp,if_pos (by omega)]
    have h2:Au σ ((m:Int)+1)=(4,σ):=by unfold Au AG.hold;rw[hs];simp[hmax]
    rw[h1,if_neg (by omega)] at hm;rw[h1,h2];exact⟨rfl,ρ,L,hm⟩
  have h1:ρ.DE ((m:Int)+1)=0:=by unfold Rs.DE;rw[hh,if_neg (by simp),hsp,if_neg (by omega)]
  rw[h1,if_pos rfl,Rs.J1 hx] at hm;rw[h1,O8 hsm h0 hmax];refine⟨rfl,_,?_,hm⟩;refine L.set (.inr ⟨by simp,hk,hle,hri,hv,hkey,hd,?_,?_⟩)
  · show x.own+1=wrap64 (s.1.held+1)
    unfold wrap64;omega
  show x.own+1+x.sides=((s.2+1:Nat):Int)
  omega
def Rs.GN (ρ:Rs) (n:Int):Rs:=match ρ.spots[(n-1).toNat]? with
 | some x=>if n=0 then ρ else ρ.setAt (n-1).toNat x.Ew
 | none=>ρ
theorem Rs.NB {ρ:Rs} {m:Nat} {x:Sp} (hx:ρ.spots[m]?=some x):ρ.GN ((m:Int)+1)=ρ.setAt m x.Ew:=by
 unfold Rs.GN;rw[show((m:Int)+1-1).toNat=m by omega,hx];simp only;rw[if_neg (by omega)]
theorem Rs.ON (ρ:Rs):ρ.GN 0=ρ:=by
 unfold Rs.GN;split
 · rw[if_pos rfl]
 rfl
end
theorem Rep.many {f:View} (hf:Fit f) {h:Int} {d:Nat} {t:Tr} (hr:Rep f h d t):(h≠0→1≤t.Ah.length)∧(t.isNode=true→2≤t.Ah.length)∧(∀n,f h=some n→(t.isNode=true↔n.kind=2)):=by
 induction hr with
 | nil=>exact⟨fun h=>absurd rfl h,fun h=>(by cases h),fun n hn=>(by rw[hf.zero] at hn;cases hn)⟩
 | leaf hn hk=>exact⟨fun _=>Nat.le_refl _,fun h=>(by cases h),fun n hn'=>(by rw[hn] at hn';cases hn';exact⟨fun h=>(by cases h),fun h=>(by omega)⟩)⟩
 | @node h d n l r hn hk hd hl hr ihl ihr =>
  have hi:=hf.inner hn hk
  have h2:2≤(l.Ah++r.Ah).length:=by
   rw[List.length_append];by_cases h0:n.left=0
   · obtain⟨hr0,hk2⟩:=En hi.fits h0
     obtain⟨y,hy⟩:=hi.right.resolve_left hr0;rw[Bn hy] at hk2;have:=ihr.2.1 ((ihr.2.2 y hy).2 hk2);omega
   by_cases h1:n.right=0
   · obtain⟨hl0,hk2⟩:=JH hi.fits h1
     obtain⟨y,hy⟩:=hi.left.resolve_left hl0;rw[Bn hy] at hk2;have:=ihl.2.1 ((ihl.2.2 y hy).2 hk2);omega
   have:=ihl.1 h0;have:=ihr.1 h1;omega
  exact⟨fun _=>Nat.le_trans (by decide) h2,fun _=>h2,fun m hm=>(by rw[hn] at hm;cases hm;exact⟨fun _=>hk,fun _=>rfl⟩)⟩
end Go.Proofs.YtngbdbpofifimaaGreat.Store
namespace Go.Proofs.YtngbdbpofifimaaGreat.Store
open Go.RowKit Go.Sort Go.Proofs.YtngbdbpofifimaaGreat.ShaW Go.Proofs.YtngbdbpofifimaaGreat.Path Go.Proofs.YtngbdbpofifimaaGreat.Bk
theorem GR:∃i z,Tryz.prog.info? 86=some i∧i.zero=some z∧i.size=33∧i.bytes≤4096∧z.cells.size=33:=by
 obtain⟨i,h1,h2⟩:=Option.map_eq_some_iff.1 (by kernel_rfl:(Tryz.prog.info? 86).map (fun i=>(i.size,decide (i.bytes≤4096),i.zero.map (fun z=>z.cells.size)))=some (33,true,some 33));simp only[Prod.mk.injEq,Option.map_eq_some_iff,decide_eq_true_eq] at h2;obtain⟨h2,h3,z,h4,h5⟩:=h2;exact⟨i,z,h1,h4,h2,h3,h5⟩
theorem B5 {w:World} {ops:Array Oper} {rest:List Oper} {o:Oper} {a:Act} {Q:Exit→Act→World→Prop} (hgd:o.guard=none) (s x:Operand)
 (ho:o.op=.call { callee:=.builtin .append,args:=#[s,x],argTypes:=#[56,56] }) {base b2:Nat} {v1 v2:Value} {l1 l2:List Pr} (hs:a.eval s=v1) (hx:a.eval x=v2) (h1:RowP w base v1 l1) (h2:RowP w b2 v2 l2)
 (hn2:l2 = []→v2=.slice none 0 0) (hl:l1.length+l2.length≤200000) (hone:∀p∈l2,∀u∈p.cells.toList,u.oneCell'=true) (hbase:base≤w.heap.size)
 (h:∀v' w',RowP w' base v' (l1++l2)→((l1 = []→v1=.slice none 0 0)→l1++l2 = []→v'=.slice none 0 0)→w.grownBy w' v1.ownBlock→wpList Tryz.prog ops Q rest (a.put o.dst v') w'):wpList Tryz.prog ops Q (o::rest) a w:=by
 obtain⟨i,z,p1,p2,p3,p4,p5⟩:=GR;by_cases he:l2 = []
 · have e2:=hn2 he
   subst he;obtain⟨ao,cap,rfl⟩:=h1.form
   have hcap:l1.length≤cap:=by
    rcases h1.2 with⟨e,h0⟩|⟨g,cap',cur,e,_,_,hn,_⟩
    · rw[h0];exact Nat.zero_le _
    cases e;exact hn
   refine wpList_plain hgd fun K hK=>?_
   have hrun:=run_append_nothing (P:=Tryz.prog) w 56 56 o.type 86 i Tryz.underlying56 p1 ao l1.length cap hcap _ (Src.ofNil w Tryz.underlying56 0);unfold Oper.wp;simp[execOp,ho,resolve,invoke,builtin,hs,hx,e2,hrun,Result.andThen];refine hK _ _ (h _ w ?_ ?_ ⟨rfl,rfl,rfl,Nat.le_refl _,fun _ _ _=>rfl⟩)
   · rw[List.append_nil];exact h1
   rw[List.append_nil];exact id
 have hpos:0<l2.length:=List.length_pos_iff.2 he;obtain⟨g,cap,cur,rfl,hg,q1,q2,q3,q4⟩:=Bq h2 hpos;obtain⟨bytes,hby⟩:∃bytes,bytes=i.bytes:=⟨_,rfl⟩
 have hfl:(BZ l2).length=l2.length*33:=h2.1;refine wpList_append_own w hgd s x 56 ho base 86 i z 33 bytes Tryz.underlying56 p1 p2 p3 hby.symm p5 (by decide) v1 l1.length (BZ l1) hs h1 ⟨g,0,none⟩ l2.length cap (BZ l2) hx hfl (fun j u hu=>?_) (fun u hu=>?_) (by unfold maxLen;omega) ?_ hbase ?_
 · have:=AH hg (Dx q4 hu)
   simpa[add_plain] using this
 · obtain⟨p,hp,hu⟩:=List.mem_flatMap.1 hu
   exact hone p hp u hu
 · rw[hby]
   have:(l1.length+l2.length)*i.bytes≤200000*4096:=Nat.mul_le_mul hl p4;omega
 intro v' w' own' grow' nil';refine h v' w' ?_ (fun _ e=>absurd (List.append_eq_nil_iff.1 e).2 he) grow'
 show w'.ownsRow base _ 33 v' (l1++l2).length (BZ (l1++l2))
 rw[List.length_append,show BZ (l1++l2)=BZ l1++BZ l2 by simp[BZ]];exact own'
section
variable {b : Nat} {F : Nat→Prop} {ρ : Rs} {σ : AG Nd}
def Fi (w w':World) (F:Nat→Prop) (L:Av) (v:Value) (out:List Pr):Prop :=
 RowP w' w.heap.size v out∧out.map Pr.ent=L∧(out = []→v=.slice none 0 0)∧(∀x∈out,x.key.length=32∧Bytes w' x.vv x.val∧∀k,x.vv.ownBlock=some k→F k)∧AN w w'
theorem Fi.one {w w':World} {L:Av} {v:Value} {out:List Pr} (h:Fi w w' F L v out):∀p∈out,∀u∈p.cells.toList,u.oneCell'=true:=fun p hp=>by
 obtain⟨_,_,_,h4,_⟩:=h;obtain⟨hk,hb,_⟩:=h4 p hp;obtain⟨ao,cap,e,_⟩:=hb.form;intro u hu;rw[Pr.list,List.mem_append,List.mem_map,List.mem_singleton] at hu;rcases hu with⟨c,_,rfl⟩|rfl
 · rfl
 rw[e];rfl
theorem GV (L:Lk σ ρ) (G:Good σ) {h:Int} {d:Nat} {t:Tr} (hr:Rep (sk σ) h d t):∀ {w:World},RAt w b F ρ →
 Calls Tryz.prog 82 #[.pointer (some ⟨b,0,none⟩),.int .i64 h] w fun e w'=>∃v out,e=.returned v∧Fi w w' F t.Ah v out:=by
 induction hr with
 | @nil d =>
  intro w hA;have hg:=DJ hA 0;have hz0:ρ.sp 0=Sp.zero:=by unfold Rs.sp;rw[if_neg (by omega)]
  rw[hz0] at hg;obtain⟨Z,hZ⟩:∃Z,Z=Sp.zero.cells:=⟨_,rfl⟩
  have hzs:=Gx;rw[←hZ] at hg hzs;have k0:Z[0]?=some (.int .u8 0):=by rw[hZ];rfl
  have HZ:=(hIq hzs (by rw[hZ];exact⟨Sp.AY Sp.BP,Sp.cells_one Sp.BP⟩:Z.size=39∧∀v∈Z.toList,v.oneCell'=true))
  have HG:=Lib.hid hg;have K0:=Lib.hid k0;clear hg hz0 hZ hzs hA k0;go_enter Tryz.func82,Tryz.ntmps82;go_wp2_with fail;refine HG.out.mono ?_;rintro e w1 ⟨rfl,a1⟩;have c0:=AH (AK (heap_alloc_new w1 (.cells Z 262)) Z) K0.out;have A1:=Lib.hid a1;clear a1
  go_wp2_with (first
   | fail
   | ((with_reducible show zOq (.alloc 262));refine AO rfl 262 rfl (.agg Z) HZ.out.1 ?_;dsimp only[Value.cells];try simp only[World.size_alloc])
   | ((with_reducible show zOq (.store 262 _ _));refine AI rfl 262 _ _ rfl w1.heap.size 0 Z rfl rfl (heap_alloc_new _ _) (by rw[Cf,HZ.out.2.1]) (by omega) HZ.out.2.2 Z (by rw[AT _ _ rfl]) ?_))
  go_ret;exact⟨_,[],rfl,RowP.nil _ _,rfl,fun _=>rfl,(fun x hx=>absurd hx List.not_mem_nil),(A1.out.alloc _).setRow (.inr A1.out.size) _⟩
 | @leaf h d n hn hk =>
  intro w hA;obtain⟨s,hs,rfl⟩:=Ev hn;obtain⟨m,x,rfl,hlt,hsm,hx,h0,hsp,hkx,hk0,hle,hri,hv,hkey,hd,ho,hos⟩:=L.some G hs;have hk1:s.1.kind=1:=hk;have hg:=DJ hA ((m:Int)+1);rw[hsp] at hg;have hok:=(hA.1.nums x (List.mem_of_getElem? hx)).1
  have hel:Bytes w x.addr x.value∧∀k,x.addr.ownBlock=some k→F k:=by
   obtain⟨_,_,_,_,_,_,h4,_⟩:=hA;exact⟨(h4 x (List.mem_of_getElem? hx)).1,fun k hk=>((h4 x (List.mem_of_getElem? hx)).2 k hk).1⟩
  obtain⟨Z,hZ⟩:∃Z,Z=Sp.zero.cells:=⟨_,rfl⟩
  have hzs:=Gx;rw[←hZ] at hzs;obtain⟨N,hN⟩:∃N,N=x.cells:=⟨_,rfl⟩
  have hNs:N.size=39∧∀v∈N.toList,v.oneCell'=true:=by rw[hN];exact⟨Sp.AY hok,Sp.cells_one hok⟩
  have k0:N[0]?=some (.int .u8 1):=by
   rw[hN,Sp.Ar,hkx,hk1];rfl
  obtain⟨E,hE⟩:∃E,E=x.entry:=⟨_,rfl⟩
  have hex:N.extract 2 (2+33)=E:=by rw[hN,hE];exact Sp.NH hok
  have hEs:E.size=33:=by rw[hE];simp[Sp.entry,hok.key]
  rw[←hN] at hg;obtain⟨i0,z0,p1,p2,p3,p4,p5⟩:=GR;have HI:=(hIq p1 (aIq p2 (aIq p3 (aIq p4 p5))))
  have HZ:=(hIq hzs (by rw[hZ];exact Sp.AY Sp.BP:Z.size=39))
  have HG:=Lib.hid hg;have HN:=(hIq hNs (aIq k0 (aIq hex hEs)))
  have HX:=(hIq hel (aIq hok.key (aIq hE (aIq (hkey hk1) hv))))
  clear hg hN hNs k0 hex hE hEs hzs hZ hel hok hA hx hsm hs hn hk hk1 hkx hle hri hv hkey hd ho hos p1 p2 p3 p4 p5;go_enter Tryz.func82,Tryz.ntmps82;go_wp2_with fail;refine HG.out.mono ?_;rintro e w1 ⟨rfl,a1⟩;have c0:=AH (AK (heap_alloc_new w1 (.cells Z 262)) N) HN.out.2.1;have A1:=Lib.hid a1;clear a1
  go_wp2_with (first
   | fail
   | ((with_reducible show zOq (.alloc 262));refine AO rfl 262 rfl (.agg Z) HZ.out.1 ?_;dsimp only[Value.cells];try simp only[World.size_alloc])
   | ((with_reducible show zOq (.store 262 _ _));refine AI rfl 262 _ _ rfl w1.heap.size 0 N rfl rfl (heap_alloc_new _ _) (by rw[Cf,HN.out.1.1]) (by rw[HN.out.1.1,HZ.out.2];omega) HN.out.1.2 N (by rw[AT _ _ (by rw[Array.length_toList,Array.length_toList,HN.out.1.1,HZ.out.2])]) ?_)
   | ((with_reducible show zOq (.load 86 _));refine AJ rfl 86 _ rfl w1.heap.size 2 rfl (AK (heap_alloc_new _ _) _) Tryz.underlying86 rfl (by rw[HI.out.1];exact congrArg some HI.out.2.2.1) (by rw[HN.out.1.1];omega) E HN.out.2.2.1 ?_)
   | ((with_reducible show zOq (.buildSlice 56 _ _));refine Bo rfl 56 _ rfl 86 i0 z0 (.agg E) rfl Tryz.underlying56 HI.out.1 HI.out.2.1 (by rw[HI.out.2.2.1];omega) (by rw[HI.out.2.2.1];omega) (by rw[HI.out.2.2.1];exact HN.out.2.2.2) ?_))
  go_ret;have hA2:AN w ((w1.alloc (.cells Z 262)).setRow w1.heap.size N):=(A1.out.alloc _).setRow (.inr A1.out.size) _;refine⟨_,[⟨x.key,x.addr,x.value⟩],rfl,?_,?_,(fun h=>by cases h),fun y hy=>?_,hA2.alloc _⟩
  · have hr:(((w1.alloc (.cells Z 262)).setRow w1.heap.size N).alloc (.cells E 86)).heap[w1.heap.size+1]?=some (.cells E 86 (0,0)):=by
     simpa using heap_alloc_new ((w1.alloc (.cells Z 262)).setRow w1.heap.size N) (.cells E 86)
    refine World.ownsRow.base (b:=0) (B4 hr (Nat.le_refl 1) (by unfold maxLen;omega) (by show E.size=1*33;rw[HN.out.2.2.2]) ?_) (fun j hj=>?_)
    · show E.toList.take (1*33)=BZ [_]
      rw[List.take_of_length_le (by rw[Array.length_toList,HN.out.2.2.2];omega),HX.out.2.2.1];simp[BZ,Pr.list,Sp.entry]
    cases hj;have:=A1.out.size;dsimp only;omega
  · show [(x.key,x.value)]=_
    rw[HX.out.2.2.2.1,HX.out.2.2.2.2];rfl
  obtain rfl:=List.mem_singleton.1 hy;exact⟨HX.out.2.1,HX.out.1.1.Ae (hA2.alloc _) (fun _ _ h=>h),HX.out.1.2⟩
 | @node h d n l r hn hk hd hl hrr ihl ihr =>
  intro w hA;have hrep:Rep (sk σ) h d (.node l r):=.node hn hk hd hl hrr;have hle2:=JV G hrep;have hrm:σ.slots.length≤65536:=Nat.le_trans G.sound.wf.len G.sound.wf.room.2
  have hne:(Tr.node l r).Ah ≠ []:=by
   intro e;have:=(Rep.many G.fit hrep).2.1 rfl;rw[e] at this;simp at this
  obtain⟨s,hs,rfl⟩:=Ev hn;obtain⟨m,x,rfl,hlt,hsm,hx,h0,hsp,hkx,hk0,hle,hri,hv,hkey,hd',ho,hos⟩:=L.some G hs;have hk1:s.1.kind=2:=hk;have hg:=DJ hA ((m:Int)+1);rw[hsp] at hg;have hok:=(hA.1.nums x (List.mem_of_getElem? hx)).1;obtain⟨Z,hZ⟩:∃Z,Z=Sp.zero.cells:=⟨_,rfl⟩
  have hzs:=Gx;rw[←hZ] at hzs;obtain⟨N,hN⟩:∃N,N=x.cells:=⟨_,rfl⟩
  have hNs:N.size=39∧∀v∈N.toList,v.oneCell'=true:=by rw[hN];exact⟨Sp.AY hok,Sp.cells_one hok⟩
  have k0:N[0]?=some (.int .u8 2):=by
   rw[hN,Sp.Ar,hkx,hk1];rfl
  have kl:N[35]?=some (.int .i64 s.1.left):=by rw[hN,Sp.Ge hok,hle]
  have kr:N[36]?=some (.int .i64 s.1.right):=by rw[hN,Sp.E8 hok,hri]
  rw[←hN] at hg;obtain⟨lf,hlf⟩:∃lf,lf=s.1.left:=⟨_,rfl⟩
  obtain⟨rg,hrg⟩:∃rg,rg=s.1.right:=⟨_,rfl⟩
  rw[←hlf] at kl;rw[←hrg] at kr;have hil:∀w:World,RAt w b F ρ→Calls Tryz.prog 82 #[.pointer (some ⟨b,0,none⟩),.int .i64 lf] w fun e w'=>∃v out,e=.returned v∧Fi w w' F l.Ah v out:=by rw[hlf];exact fun w h=>ihl h
  have hir:∀w:World,RAt w b F ρ→Calls Tryz.prog 82 #[.pointer (some ⟨b,0,none⟩),.int .i64 rg] w fun e w'=>∃v out,e=.returned v∧Fi w w' F r.Ah v out:=by rw[hrg];exact fun w h=>ihr h
  have hlen:l.Ah.length+r.Ah.length≤200000:=by
   have e:(Tr.node l r).Ah.length=l.Ah.length+r.Ah.length:=by show(l.Ah++r.Ah).length=_;rw[List.length_append]
   omega
  have HZ:=(hIq hzs (by rw[hZ];exact Sp.AY Sp.BP:Z.size=39))
  have HG:=Lib.hid hg;have HA:=Lib.hid hA;have HN:=(hIq hNs (aIq k0 (aIq kl kr)))
  have HIL:=Lib.hid hil;have HIR:=Lib.hid hir;have HL:=(hIq hlen hne)
  clear hg hN hNs k0 kl kr hlf hrg hil hir hlen hne hzs hZ hok hA hx hsm hs hn hk hk1 hkx hle hri hv hkey hd hd' ho hos hle2 hrm hrep ihl ihr hl hrr hlt hsp h0 hk0;go_enter Tryz.func82,Tryz.ntmps82;go_wp2_with fail;refine HG.out.mono ?_;rintro e w1 ⟨rfl,a1⟩;have c0:=AH (AK (heap_alloc_new w1 (.cells Z 262)) N) HN.out.2.1;have A1:=Lib.hid a1;clear a1
  go_wp2_with (first
   | fail
   | ((with_reducible show zOq (.alloc 262));refine AO rfl 262 rfl (.agg Z) HZ.out.1 ?_;dsimp only[Value.cells];try simp only[World.size_alloc])
   | ((with_reducible show zOq (.store 262 _ _));refine AI rfl 262 _ _ rfl w1.heap.size 0 N rfl rfl (heap_alloc_new _ _) (by rw[Cf,HN.out.1.1]) (by rw[HN.out.1.1,HZ.out.2];omega) HN.out.1.2 N (by rw[AT _ _ (by rw[Array.length_toList,Array.length_toList,HN.out.1.1,HZ.out.2])]) ?_))
  obtain⟨B,hB⟩:∃B,B=w1.heap.size:=⟨_,rfl⟩
  obtain⟨w2,hw2⟩:∃w2,w2=(w1.alloc (.cells Z 262)).setRow w1.heap.size N:=⟨_,rfl⟩
  have hr2:=AK (heap_alloc_new w1 (.cells Z 262)) N;have hA2:AN w ((w1.alloc (.cells Z 262)).setRow w1.heap.size N):=(A1.out.alloc _).setRow (.inr A1.out.size) _;rw[←hw2] at hr2 hA2;rw[←hB] at hr2;have R2:=(hIq hr2 hA2)
  clear hr2 hA2 c0;simp only[←hw2];simp only[←hB];clear hw2 hB;refine AP (fun wz=>wz.heap[B]?=some (.cells N 262 (0,0))) 10 [(0,false),(1,false),(2,false),(4,false),(5,false),(6,false),(3,true),(7,true),(8,true),(9,false)] (by kernel_rfl) (by kernel_rfl) ?_ ?_
  · exact AM R2.out.1
  iterate 2
   refine plan_look rfl rfl (fun w0 hS=>(by clear hS;go_simp;try rfl)) ?_;simp only[Act.put,nAq,nBq,nCq]
  refine plan_look (v:=.int .i64 lf) rfl rfl (fun w0 hS=>(by have c1:=AH hS HN.out.2.2.1;clear hS;go_simp;try rfl)) ?_;simp only[Act.put,nAq,nBq,nCq]
  iterate 2
   refine plan_look rfl rfl (fun w0 hS=>(by clear hS;go_simp;try rfl)) ?_;simp only[Act.put,nAq,nBq,nCq]
  refine plan_look (v:=.int .i64 rg) rfl rfl (fun w0 hS=>(by have c1:=AH hS HN.out.2.2.2;clear hS;go_simp;try rfl)) ?_;simp only[Act.put,nAq,nBq,nCq];refine AW rfl ?_;have ad2:AN w w2.drew:=R2.out.2.trans (Ch.refl (fun _=>False) w2).drew (fun _=>fEq);go_wp2_with fail;refine(HIL.out _ (HA.out.adds ad2)).mono ?_;rintro e w3 ⟨v1,o1,rfl,e1⟩;have ad3:AN w w3:=ad2.trans e1.2.2.2.2 (fun _=>fEq);have E1:=(hIq e1 (aIq ad3 (aIq (e1.2.2.2.2.row (AM R2.out.1) id) ad2)))
  clear e1 ad3 ad2;dsimp only;go_step;refine wpList_nil ?_;change _∧_;refine⟨E1.out.2.2.1,?_⟩;refine AW rfl ?_;go_wp2_with fail;refine(HIR.out _ (HA.out.adds E1.out.2.1)).mono ?_;rintro e w4 ⟨v2,o2,rfl,e2⟩;have ad4:AN w w4:=E1.out.2.1.trans e2.2.2.2.2 (fun _=>fEq);have E2:=(hIq e2 (aIq ad4 (e2.2.2.2.2.row E1.out.2.2.1 id)))
  clear e2 ad4;dsimp only;go_step;refine wpList_nil ?_;change _∧_;refine⟨E2.out.2.2,?_⟩;refine AW rfl ?_;have hp1:RowP w4 w2.drew.heap.size v1 o1:=E2.out.1.2.2.2.2.owns E1.out.1.1 (fun _ _ h=>h);have hp0:RowP w4 w.heap.size v1 o1:=World.ownsRow.base hp1 (fun j hj=>Nat.le_trans E1.out.2.2.2.size (hp1.lt j hj).1);have hB2:B<w2.drew.heap.size:=(Array.getElem?_eq_some_iff.1 (AM R2.out.1)).1;have hF:∀k,F k→k<w.heap.size:=by obtain⟨_,_,_,_,_,_,_,_,_,_,h8⟩:=HA.out;exact h8
  refine B5 rfl _ _ rfl rfl rfl hp0 E2.out.1.1 E2.out.1.2.2.1 ?_ E2.out.1.one ?_ ?_
  · have h1:=congrArg List.length E1.out.1.2.1
    have h2:=congrArg List.length E2.out.1.2.1;rw[List.length_map] at h1 h2;rw[h1,h2];exact HL.out.1
  · exact E2.out.2.1.size
  intro v5 w5 hr5 hn5 hg5;replace hn5:=hn5 E1.out.1.2.2.1;obtain⟨ao,cap,rfl⟩:=hr5.form;have ad5:AN w w5:=Ch.grown E2.out.2.1 hg5 (fun k hk=>.inr (hp0.lt k hk).1);have c45:Ch (fun k=>v1.ownBlock=some k) w4 w5:=Ch.grown (Ch.refl _ _) hg5 (fun k hk=>.inl hk);have hS:w5.heap[B]?=some (.cells N 262 (0,0)):=c45.row E2.out.2.2 (fun h=>by have:=(hp1.lt B h).1;omega)
  have hend:Fi w w5 F (Tr.node l r).Ah (.slice ao (o1++o2).length cap) (o1++o2):=by
   refine⟨hr5,?_,hn5,fun x hx=>?_,ad5⟩
   · rw[List.map_append,E1.out.1.2.1,E2.out.1.2.1];rfl
   rcases List.mem_append.1 hx with hx|hx
   · obtain⟨g1,g2,g3⟩:=E1.out.1.2.2.2.1 x hx
     exact⟨g1,(g2.Ae E2.out.1.2.2.2.2 (fun _ _ h=>h)).Ae c45 (fun k hk h=>by have:=hF k (g3 k hk);have:=(hp0.lt k h).1;omega),g3⟩
   obtain⟨g1,g2,g3⟩:=E2.out.1.2.2.2.1 x hx;exact⟨g1,g2.Ae c45 (fun k hk h=>by have:=hF k (g3 k hk);have:=(hp0.lt k h).1;omega),g3⟩
  have HE:=Lib.hid hend;clear hend ad5 c45 hr5 hn5 hg5 hp0 hp1 hB2 hF;refine wpList_nil ?_;change _∧_;refine⟨hS,?_⟩;clear hS;refine plan_look rfl rfl (fun w0 hS=>(by clear hS;go_simp;try rfl)) ?_;simp only[Act.put,nAq,nBq,nCq];refine AZ ?_;simp only[List.drop_succ_cons,List.drop_zero];go_wp2;refine NoPanic.normal ?_;go_wp2;go_ret;have e:=HE.out;rw[List.length_append] at e;exact⟨_,o1++o2,rfl,e⟩
end
end Go.Proofs.YtngbdbpofifimaaGreat.Store

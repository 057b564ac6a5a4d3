/- Laws of the layers below. -/
import Derived.Test.YtngbdbpofifimaaGreatQk21
import Derived.Maps.RangeWalk
import Derived.Sort.KeysCollected
import Derived.StringKeys
import Derived.Maps.Keyed
set_option maxHeartbeats 3200000
set_option maxRecDepth 100000
set_option linter.unusedVariables false
namespace Go.Proofs.YtngbdbpofifimaaGreat.Law9
open Go.RowKit Go.Sort Go.Proofs.YtngbdbpofifimaaGreat.ShaW Go.Proofs.YtngbdbpofifimaaGreat.Path Go.Proofs.YtngbdbpofifimaaGreat.Store
structure WmK where
 p:Wm
 len:p.key.length=32
 one:p.vv.oneCell'=true
instance:Inhabited WmK:=⟨⟨⟨List.replicate 32 0,false,.slice none 0 0,[]⟩,rfl,rfl⟩⟩
def Eo (x:WmK):List Value:=x.p.cells.toList
theorem Ib (x:WmK):(Eo x).length=34:=by rw[Eo,Array.length_toList];exact Wm.size x.len
theorem TQ (x:WmK):∀v∈Eo x,v.oneCell'=true:=fun v hv=>by
 unfold Eo at hv;rw[Wm.list] at hv;rcases List.mem_append.1 hv with h|h
 · exact DX _ v h
 simp at h;rcases h with rfl|rfl
 · rfl
 exact x.one
def Qe (x y:WmK):Int:=Lib.compareBytes x.p.key y.p.key
theorem ltW (x y:WmK):ltOf Qe x y=decide (Lib.compareBytes x.p.key y.p.key<0):=rfl
theorem Xv:SWO (ltOf Qe) where
 irrefl x:=by rw[ltW,KG];rfl
 trans x y z h1 h2:=by
  rw[ltW] at *;exact decide_eq_true (Ie _ _ _ (of_decide_eq_true h1) (of_decide_eq_true h2))
 ntrans x y z h1 h2:=by
  rw[ltW] at *;exact decide_eq_false (IL _ _ _ (of_decide_eq_false h1) (of_decide_eq_false h2))
theorem SJ (x y:WmK) (W:World):Calls Tryz.prog 215 #[.agg (Eo x).toArray,.agg (Eo y).toArray] W fun e w'=>e=.returned (.int .i64 (Qe x y))∧∃q os,w'=grow (W.drewN q) os:=by
 obtain⟨A,hA⟩:∃A,A=x.p.cells:=⟨_,rfl⟩
 obtain⟨B,hB⟩:∃B,B=y.p.cells:=⟨_,rfl⟩
 have hc:=P2 x.p.key y.p.key x.len y.len ((W.alloc (.cells A 134)).alloc (.cells B 134));have ka:=Wm.BW x.len;have kb:=Wm.BW y.len;have sa:=Wm.size x.len;have sb:=Wm.size y.len;unfold Eo Qe;rw[Array.toArray_toList,Array.toArray_toList];rw[←hA] at ka sa ⊢;rw[←hB] at kb sb ⊢;obtain⟨KA,hKA⟩:∃K,K=AK x.p.key:=⟨_,rfl⟩
 obtain⟨KB,hKB⟩:∃K,K=AK y.p.key:=⟨_,rfl⟩
 rw[←hKA] at ka hc;rw[←hKB] at kb hc;generalize Lib.compareBytes x.p.key y.p.key=r at hc ⊢;have g1:((W.alloc (.cells A 134)).alloc (.cells B 134)).heap[W.heap.size]?=some (.cells A 134 (0,0)):=AI (heap_alloc_new _ _) _
 have g2:((W.alloc (.cells A 134)).alloc (.cells B 134)).heap[W.heap.size+1]?=some (.cells B 134 (0,0)):=by
  have:=heap_alloc_new (W.alloc (.cells A 134)) (.cells B 134);simpa using this
 have G1:=Lib.hid g1;have G2:=Lib.hid g2;have HC:=Lib.hid hc;have HK:=(hIq ka kb)
 have HS:=(hIq sa sb)
 clear hA hB hKA hKB g1 g2 hc ka kb sa sb;go_enter Tryz.func215,Tryz.ntmps215
 go_wp2_with (first
  | fail
  | ((with_reducible show zOq (.load 47 _));refine AG rfl 47 _ rfl W.heap.size 0 rfl G1.out Tryz.underlying47 rfl Aa (by rw[HS.out.1];omega) KA HK.out.1 ?_)
  | ((with_reducible show zOq (.load 47 _));refine AG rfl 47 _ rfl (W.heap.size+1) 0 rfl G2.out Tryz.underlying47 rfl Aa (by rw[HS.out.2];omega) KB HK.out.2 ?_))
 refine HC.out.mono ?_;rintro e w1 ⟨rfl,q,os,rfl⟩;go_wp2;go_ret;refine⟨rfl,q, #[.cells A 134,.cells B 134]++os,?_⟩;rw[alloc_eq_grow,alloc_eq_grow,grow_grow,Pe,grow_grow];rfl
theorem TF (blk off size:Nat) (w:World):CmpLays Tryz.prog 215 #[] Eo 34 Qe blk off size w:=fun _ _ _ _ x y=>SJ x y _
theorem Qs {w:World} {g:Nat} {t:TypeId} {cur:Array Value} {d:Array WmK} (hg:w.heap[g]?=some (.cells cur t (0,0))) (hx:∀i x,d[i]?=some x→i*34+34≤cur.size∧cur.extract (i*34) (i*34+34)=x.p.cells):HoldsK Eo 34 w g 0 d:=by
 intro j hj;rw[size_flatK] at hj;have hi:j / 34<d.size:=by omega
 obtain⟨h1,h2⟩:=hx (j / 34) _ (Array.getElem?_eq_getElem hi);refine⟨?_,Ah hg _⟩;rw[get_flatK Eo 34 d j hj];have hm:j % 34<34:=Nat.mod_lt _ (by omega);have hs:=Wm.size (d[j / 34]).len
 have e1:cur[j]?=some (Eo d[j / 34]!)[j % 34]!:=by
  have e2:(cur.extract (j / 34*34) (j / 34*34+34))[j % 34]?=cur[j]?:=by
   rw[Array.getElem?_extract,if_pos (by omega)]
   congr 1
   omega
  rw[←e2,h2,getElem!_pos d (j / 34) hi];unfold Eo;rw[getElem!_pos _ _ (by rw[Array.length_toList,hs];exact hm),Array.getElem?_eq_getElem (by rw[hs];exact hm)];simp
 rw[Nat.zero_add];exact AE hg e1
theorem RL {w:World} {g:Nat} {d:Array WmK} (h:HoldsK Eo 34 w g 0 d) {i:Nat} {x:WmK} (hx:d[i]?=some x):Bx w g (0+i*34) x.p.cells:=by
 have hi:=(Array.getElem?_eq_some_iff.1 hx).1;have hd:d[i]! = x:=by rw[getElem!_pos d i hi];exact(Array.getElem?_eq_some_iff.1 hx).2
 have:=Bx.IC (w:=w) (g:=g) (o:=0+i*34) (m:=34) (cs:=Eo x) (by omega) (Ib x) (fun c hc=>by
  have h1:=h (i*34+c) (by rw[size_flatK];omega);rw[get_flatK Eo 34 d _ (by omega),show(i*34+c) / 34=i by omega,show(i*34+c) % 34=c by omega,hd] at h1;rw[show 0+i*34+c=0+(i*34+c) by omega];rw[h1.1,List.getElem?_eq_getElem (by rw[Ib];exact hc),getElem!_pos _ _ (by rw[Ib];exact hc)];rfl)
 rwa [Eo,Array.toArray_toList] at this
theorem PI (w:World) (g n:Nat) (d':Array WmK) (os:Array Obj):Ch (fun k=>k=g) w (sortWorldK Eo 34 w g 0 n d' os):=by
 unfold sortWorldK grow putRowK Go.Sort.putRow Go.Sort.mapBlock Go.Sort.ahead;refine⟨rfl,rfl,rfl,by simp,fun k hk hn=>?_⟩;simp only[Array.getElem?_append,Array.size_modify,hk,if_true,Array.getElem?_modify];rw[if_neg (fun e=>hn e.symm)]
theorem TM {w:World} {g cap:Nat} {d:Array WmK} (hH:HoldsK Eo 34 w g 0 d) (hg:g<w.heap.size) (hn:d.size<4611686018427387904) :
 Calls Tryz.prog 214 #[.slice (some ⟨g,0,none⟩) d.size cap,.func (.func 215) #[] #[]] w fun e w'=>e=.returned (.tuple #[]) ∧
  ∃d':Array WmK,d'.size=d.size∧d'.toList.Perm d.toList∧d'.toList.Pairwise (fun x y=>¬Lib.compareBytes y.p.key x.p.key<0)∧HoldsK Eo 34 w' g 0 d'∧Ch (fun k=>k=g) w w':=by
 have eg:∀args w,(callFunc 215 args).run Tryz.prog w=.ok (.enter 215 args) w:=enters_of Tryz.func215 (by kernel_rfl) rfl;have hcon:=AnyQ.slices_SortFunc Su 34 Tryz.isAgg134 Tryz.sizeOf134 Eo Ib TQ Qe Xv 215 #[] g 0 cap d w eg (TF g 0 d.size w) hH hg hn;refine Calls.mono hcon fun e w' ⟨he,d',n,os,hp,hs,hw⟩=>⟨he,d',hp.1,?_,?_,?_,?_⟩
 · have:=hp.2.2
   rwa [show d'.extract 0 d.size=d' by rw[←hp.1,Array.extract_size],Array.extract_size] at this
 · rw[List.pairwise_iff_getElem]
   intro i j hi hj hij;have hi':i<d'.size:=by simpa using hi
   have hj':j<d'.size:=by simpa using hj
   have:=hs i j (Nat.zero_le _) hij (by rw[←hp.1];exact hj');rw[ltW,getElem!_pos d' i hi',getElem!_pos d' j hj'] at this;simpa using this
 · rw[hw]
   exact holdsK_sortWorldK_c Eo 34 w g 0 d d' n os hH hg hp.1
 rw[hw];exact PI w g n d' os
end Go.Proofs.YtngbdbpofifimaaGreat.Law9
namespace Go.Proofs.YtngbdbpofifimaaGreat.Law9
open Go.RowKit Go.Proofs.YtngbdbpofifimaaGreat.ShaW Go.Proofs.YtngbdbpofifimaaGreat.Path Go.Proofs.YtngbdbpofifimaaGreat.Store
section
variable {α : Type} {cells : α→Array Value} {m : Nat}
def BF (cells:α→Array Value) (l:List α):List Value:=l.flatMap fun x=>(cells x).toList
def Dq (cells:α→Array Value) (m:Nat) (l:List α):Prop:=∀x∈l,(cells x).size=m
theorem Cs:∀(l:List α),Dq cells m l→(BF cells l).length=l.length*m
 | [],_=>by simp[BF]
 | x::l,h=>by
  have ih:=Cs l (fun y hy=>h y (List.mem_cons_of_mem _ hy));have e:BF cells (x::l)=(cells x).toList++BF cells l:=by simp[BF]
  have e2:(l.length+1)*m=l.length*m+m:=Nat.succ_mul ..;rw[e,List.length_append,ih,Array.length_toList,h x (List.mem_cons_self ..),List.length_cons];omega
theorem Ct (l k:List α):BF cells (l++k)=BF cells l++BF cells k:=by simp[BF]
theorem Ev {l:List α} {i:Nat} {x:α} (hi:l[i]?=some x):BF cells l=BF cells (l.take i)++((cells x).toList++BF cells (l.drop (i+1))):=by
 obtain⟨hlt,rfl⟩:=List.getElem?_eq_some_iff.1 hi;have e:=List.take_append_drop i l;rw[List.drop_eq_getElem_cons hlt] at e;have e2:BF cells l=BF cells (l.take i++l[i]::l.drop (i+1)):=by rw[e]
 have e3:BF cells (l[i]::l.drop (i+1))=(cells l[i]).toList++BF cells (l.drop (i+1)):=List.flatMap_cons;rw[e2,Ct,e3]
theorem Hj {l:List α} (h:Dq cells m l) {i:Nat} (hi:i≤l.length):(BF cells (l.take i)).length=i*m:=by
 rw[Cs (m:=m) _ (fun x hx=>h x (List.mem_of_mem_take hx)),List.length_take,Nat.min_eq_left hi]
theorem MF {l:List α} (h:Dq cells m l) {i:Nat} {x:α} (hi:l[i]?=some x):((BF cells l).drop (i*m)).take m=(cells x).toList:=by
 have hlt:=(List.getElem?_eq_some_iff.1 hi).1;have hs:(cells x).toList.length=m:=by rw[Array.length_toList];exact h x (List.mem_of_getElem? hi)
 rw[Ev hi,List.drop_append_of_le_length (by rw[Hj h (by omega)];omega),List.drop_eq_nil_of_le (by rw[Hj h (by omega)];omega),List.nil_append,List.take_append_of_le_length (by omega),List.take_of_length_le (by omega)]
theorem Qy {l:List α} (h:Dq cells m l) {i:Nat} (hi:i<l.length) {p:α} (hp:(cells p).size=m):splice (BF cells l) (i*m) (cells p).toList=BF cells (l.set i p):=by
 have hx:l[i]?=some l[i]:=List.getElem?_eq_getElem hi;have hp':(l.set i p)[i]?=some p:=by simp[hi]
 have hs:(cells l[i]).toList.length=m:=by rw[Array.length_toList];exact h _ (List.mem_of_getElem? hx)
 have hps:(cells p).toList.length=m:=by rw[Array.length_toList];exact hp
 have e2:(l.set i p).take i=l.take i:=by rw[List.take_set_of_le (Nat.le_refl _)]
 have e3:(l.set i p).drop (i+1)=l.drop (i+1):=by rw[List.drop_set_of_lt (Nat.lt_succ_self _)]
 rw[Ev hp',e2,e3,splice,hps];have ht:=Hj h (i:=i) (by omega)
 have e4:(BF cells l).take (i*m)=BF cells (l.take i):=by
  rw[Ev hx,List.take_append_of_le_length (by omega),List.take_of_length_le (by omega)]
 have e5:(BF cells l).drop (i*m+m)=BF cells (l.drop (i+1)):=by
  rw[Ev hx, ←List.append_assoc,List.drop_append,List.drop_eq_nil_of_le (by rw[List.length_append];omega),List.nil_append,List.length_append,ht,hs];simp
 rw[e4,e5,List.append_assoc]
def DV (T:TypeId) (m:Nat) (cells:α→Array Value) (w:World) (b:Nat) (v:Value) (l:List α):Prop:=w.ownsRow b T m v l.length (BF cells l)
variable {w w' : World} {b : Nat} {v : Value} {l : List α} {T : TypeId}
theorem DV.form (h:DV T m cells w b v l):∃ao cap,v=.slice ao l.length cap:=Ad h
theorem DV.adds (h:DV T m cells w b v l) (a:Adds w w'):DV T m cells w' b v l:=a.owns h (fun _ _ h=>h)
theorem DV.nil (w:World) (b:Nat):DV T m cells w b (.slice none 0 0) []:=World.ownsRow_nil _ _ _ _
theorem DV.open (h:DV T m cells w b v l) (hk:Dq cells m l) (hl:0<l.length):∃g cap cur,v=.slice (some ⟨g,0,none⟩) l.length cap∧b≤g∧l.length≤cap∧w.heap[g]?=some (.cells cur T (0,0))∧l.length*m≤cur.size ∧
 (∀i x,l[i]?=some x→cur.extract (i*m) (i*m+m)=cells x) ∧
 ∀i p,i<l.length→(cells p).size=m→DV T m cells (w.setRow g (splice cur.toList (i*m) (cells p).toList).toArray) b v (l.set i p):=by
 obtain⟨h0,⟨_,h1⟩|⟨g,cap,cur,rfl,hb,hg,hn,hc,hs,ht⟩⟩:=h
 · omega
 have hle:l.length*m≤cap*m:=Nat.mul_le_mul_right _ hn;have up:∀i,i<l.length→i*m+m≤l.length*m:=fun i hi=>by have:=Nat.mul_le_mul_right m (show i+1≤l.length by omega);rwa [Nat.succ_mul] at this
 refine⟨g,cap,cur,rfl,hb,hn,hg,by omega,fun i x hx=>?_,fun i p hi hp=>?_⟩
 · have hm:=up i (List.getElem?_eq_some_iff.1 hx).1
   apply Array.ext';rw[←MF hk hx, ←ht];simp only[Array.toList_extract,List.extract];rw[List.drop_take,List.take_take,show i*m+m-i*m=m by omega,Nat.min_eq_left (by omega)]
 have hps:(cells p).toList.length=m:=by rw[Array.length_toList];exact hp
 have hm:=up i hi
 have hsl:(splice cur.toList (i*m) (cells p).toList).length=cap*m:=by
  unfold splice;rw[List.length_append,List.length_append,List.length_take,List.length_drop,Array.length_toList,hps];omega
 have hks:Dq cells m (l.set i p):=fun x hx=>by
  rcases List.mem_or_eq_of_mem_set hx with h|h
  · exact hk x h
  rw[h];exact hp
 refine⟨by rw[Cs (m:=m) _ hks],.inr ⟨g,cap,_,by rw[List.length_set],hb,AF hg _,by rw[List.length_set];exact hn,hc,by simpa using hsl,?_⟩⟩;rw[List.length_set, ←Qy hk hi hp, ←ht];have hcl:cur.toList.length=cap*m:=by rw[Array.length_toList];exact hs
 unfold splice;rw[hps];rw[List.take_append,List.take_append,List.take_of_length_le (l:=cur.toList.take (i*m)) (by rw[List.length_take];omega),List.take_take,Nat.min_eq_left (by omega)];rw[List.length_append,List.length_take,hcl,hps,Nat.min_eq_left (by omega)];rw[List.take_of_length_le (l:=(cells p).toList) (by omega)]
 congr 1
 rw[List.drop_take]
theorem DV.row (h:DV T m cells w b v l) (hk:Dq cells m l) (hm:0<m):∃ao cap,v=.slice ao l.length cap∧EE m cells w ao l∧(l.length≤cap∨l = []):=by
 obtain⟨ao,cap,e⟩:=h.form;by_cases h0:0<l.length
 · obtain⟨g,cap,cur,e2,hb,hn,hg,hs,hx,_⟩:=h.open hk h0
   refine⟨_,_,e2,fun i x hi=>⟨g,0,rfl,cur,T,(0,0),hg,?_,?_⟩,.inl hn⟩
   · have:=Nat.mul_le_mul_right m (show i+1≤l.length from(List.getElem?_eq_some_iff.1 hi).1)
     rw[Nat.succ_mul] at this;rw[hk x (List.mem_of_getElem? hi)];omega
   rw[hk x (List.mem_of_getElem? hi),Nat.zero_add];exact hx i x hi
 obtain rfl:l = []:=List.length_eq_zero_iff.1 (by omega);exact⟨ao,cap,e,fun i x hi=>(by simp at hi),.inr rfl⟩
theorem O0 {g off:Nat} (hk:Dq cells m l) (hm:0<m) (hl:∀(i:Nat) x,l[i]?=some x→Bx w g (off+i*m) (cells x)):∀(j:Nat) u,(BF cells l)[j]?=some u→w.cell? ⟨g,off+j,none⟩=some u:=fun j u hu=>by
 have hj:=(List.getElem?_eq_some_iff.1 hu).1;rw[Cs l hk] at hj;have hi:j / m<l.length:=Nat.div_lt_of_lt_mul (by rw[Nat.mul_comm];exact hj);have hx:l[j / m]?=some l[j / m]:=List.getElem?_eq_getElem hi;have hs:=hk _ (List.getElem_mem hi);obtain⟨cur,t,fr,hr,h1,h2⟩:=hl _ _ hx;have hmm:j % m<m:=Nat.mod_lt _ hm;have hdm:j / m*m+j % m=j:=Nat.div_add_mod' j m;have e1:((BF cells l).drop (j / m*m)).take m=(cells (l[j / m])).toList:=MF hk hx
 have e2:(cells (l[j / m])).toList[j % m]?=some u:=by
  rw[←e1,List.getElem?_take,if_pos hmm,List.getElem?_drop,hdm];exact hu
 rw[show off+j=off+j / m*m+j % m by omega];refine AE hr ?_;rw[Array.getElem?_toList, ←h2,Array.getElem?_extract,if_pos (by omega)] at e2;exact e2
theorem EE.news {ad:Addr} (h:EE m cells w (some ad) l) (hk:Dq cells m l) (hm:0<m):∀(j:Nat) u,(BF cells l)[j]?=some u→w.cell? (ad.add j)=some u:=fun j u hu=>by
 have hj:=(List.getElem?_eq_some_iff.1 hu).1;rw[Cs l hk] at hj;have hl0:0<l.length:=Nat.pos_of_mul_pos_right (Nat.lt_of_le_of_lt (Nat.zero_le _) hj);obtain⟨g,off,h1,_⟩:=h 0 _ (List.getElem?_eq_getElem hl0);injection h1 with h1;subst h1;rw[add_plain];refine O0 hk hm (fun i x hx=>?_) j u hu;obtain⟨g',off',h1',h2'⟩:=h i x hx;injection h1' with h1';injection h1' with a b;subst a b;exact h2'
end
end Go.Proofs.YtngbdbpofifimaaGreat.Law9
namespace Go.Proofs.YtngbdbpofifimaaGreat.Store
open Go.RowKit Go.Proofs.YtngbdbpofifimaaGreat.ShaW Go.Proofs.YtngbdbpofifimaaGreat.Path
open Go.Maps (Keyed)
abbrev Nms:=List (List UInt8×Int)
def Nms.names (ν:Nms):List (List UInt8):=ν.map Prod.fst
def Nms.get (ν:Nms) (x:List UInt8):Int:=((ν.find? (fun p=>decide (p.1=x))).map Prod.snd).getD 0
def Nms.cut (ν:Nms) (x:List UInt8):Nms:=ν.filter (fun p => !decide (p.1=x))
def Nms.set (ν:Nms) (x:List UInt8) (c:Int):Nms:=(x,c)::ν.cut x
theorem Nms.UW {ν:Nms} {x:List UInt8} {p:List UInt8×Int}:p∈ν.cut x↔p∈ν∧p.1≠x:=by simp[Nms.cut]
theorem Nms.Cu {ν:Nms} {x z:List UInt8}:z∈(ν.cut x).names↔z∈ν.names∧z≠x:=by
 simp only[Nms.names,List.mem_map,Nms.UW];constructor
 · rintro⟨p,⟨h1,h2⟩,rfl⟩;exact⟨⟨p,h1,rfl⟩,h2⟩
 rintro⟨⟨p,h1,rfl⟩,h2⟩;exact⟨p,⟨h1,h2⟩,rfl⟩
theorem Nms.Ly {ν:Nms} (h:ν.names.Nodup) (x:List UInt8):(ν.cut x).names.Nodup:=by
 unfold Nms.names Nms.cut at *;exact h.sublist (List.filter_sublist.map _)
theorem Nms.Q9 {ν:Nms} (h:ν.names.Nodup) (x:List UInt8) (c:Int):(ν.set x c).names.Nodup:=by
 show(x::(ν.cut x).names).Nodup
 exact List.nodup_cons.2 ⟨fun hm=>(Nms.Cu.1 hm).2 rfl,Nms.Ly h x⟩
theorem Nms.Ob {ν:Nms} {x:List UInt8} (h:x∉ν.names):ν.cut x=ν:=by
 unfold Nms.cut;refine List.filter_eq_self.2 (fun p hp=>?_);have:p.1≠x:=fun e=>h (List.mem_map.2 ⟨p,hp,e⟩)
 simp[this]
theorem Nms.Kz {ν:Nms} {x:List UInt8} {c:Int}:(ν.set x c).get x=c:=by simp[Nms.get,Nms.set]
theorem Nms.QL {ν:Nms} {x z:List UInt8} (h:z≠x):(ν.cut x).get z=ν.get z:=by
 unfold Nms.get Nms.cut
 congr 2
 rw[List.find?_filter]
 congr 1
 funext p
 by_cases e:p.1=z
 · simp[e,h]
 simp[e]
theorem Nms.CJ {ν:Nms} {x z:List UInt8} {c:Int} (h:z≠x):(ν.set x c).get z=ν.get z:=by
 have:(ν.set x c).get z=(ν.cut x).get z:=by
  unfold Nms.get Nms.set;rw[List.find?_cons_of_neg (by simp[Ne.symm h])]
 rw[this,Nms.QL h]
theorem Nms.get_none {ν:Nms} {x:List UInt8} (h:x∉ν.names):ν.get x=0:=by
 unfold Nms.get;rw[List.find?_eq_none.2 (fun p hp=>by have:p.1≠x:=fun e=>h (List.mem_map.2 ⟨p,hp,e⟩);simp[this])];rfl
theorem Nms.Mh {ν:Nms} {x:List UInt8}:(ν.cut x).get x=0:=Nms.get_none (fun h=>(Nms.Cu.1 h).2 rfl)
theorem Nms.get_mem {ν:Nms} (hn:ν.names.Nodup) {p:List UInt8×Int} (hp:p∈ν):ν.get p.1=p.2:=by
 induction ν with
 | nil=>cases hp
 | cons q ν ih =>
  rcases List.mem_cons.1 hp with rfl|h
  · simp[Nms.get]
  obtain⟨h1,h2⟩:=List.nodup_cons.1 (show(q.1::Nms.names ν).Nodup from hn);have hne:q.1≠p.1:=fun e=>h1 (e▸List.mem_map.2 ⟨p,h,rfl⟩)
  rw[←ih h2 h];unfold Nms.get;rw[List.find?_cons_of_neg (by simp[hne])]
theorem Nms.KS {ν:Nms} (hn:ν.names.Nodup) (x:List UInt8):(ν.cut x).length+(if x∈ν.names then 1 else 0)=ν.length:=by
 induction ν with
 | nil=>rfl
 | cons q ν ih =>
  obtain⟨h1,h2⟩:=List.nodup_cons.1 (show(q.1::Nms.names ν).Nodup from hn);have ih:=ih h2;by_cases e:q.1=x
  · subst e
    have hc:Nms.cut (q::ν) q.1=Nms.cut ν q.1:=by simp[Nms.cut]
    have hm:q.1∈Nms.names (q::ν):=List.mem_cons_self;rw[hc,if_pos hm,Nms.Ob h1,List.length_cons]
  have hc:Nms.cut (q::ν) x=q::Nms.cut ν x:=by simp[Nms.cut,e]
  have hm:x∈Nms.names (q::ν)↔x∈Nms.names ν:=by
   show x∈q.1::Nms.names ν↔_
   rw[List.mem_cons];exact⟨fun h=>h.resolve_left (fun h=>e h.symm),.inr⟩
  rw[hc,List.length_cons,List.length_cons];by_cases hx:x∈Nms.names ν
  · rw[if_pos (hm.2 hx)]
    rw[if_pos hx] at ih;omega
  rw[if_neg (fun h=>hx (hm.1 h))];rw[if_neg hx] at ih;omega
noncomputable abbrev Kb:Value→Option (DataW Value×List MemPlace):=plainElem Tryz.prog 3
theorem Nw:Keyed Tryz.prog 9:=Go.Maps.string_keyed Tryz.underlying9
theorem Ka (w:World):(zeroValue 3).run Tryz.prog w=.ok (.int .i64 0) w:=by kernel_rfl
def Mv (x:Int):DataW Value:=.lit (.int .i64 x)
theorem Ft (x:List UInt8) (hx:x.length≤maxLen):keyOf Tryz.prog 9 (.string (BH x))=some (.string x):=by
 have:=Go.WideMaps.keyOf_string_mk (P:=Tryz.prog) (k:=9) Tryz.underlying9 (s:=BH x) (by show x.toArray.size≤_;simpa using hx);simpa[BH] using this
theorem Lw {x:List UInt8} (hx:x.length≤maxLen):WideAt.IsKeyLit (.string x):=Nw.key (Ft x hx)
structure BQ (w:World) (b n:Nat) (ν:Nms):Prop where
 ex:∃D,w.ownsMap Tryz.prog 9 Kb b n D∧Maps.size D=ν.length∧∀x:List UInt8,Maps.has D (.string x)=decide (x∈ν.names)∧D.atKey (.string x) (Mv 0)=Mv (ν.get x)
 nd:ν.names.Nodup
 len:∀x∈ν.names,x.length≤maxLen
section
variable {w w' : World} {b n : Nat} {ν : Nms}
theorem BQ.Af {F:Nat→Prop} (h:BQ w b n ν) (hc:Ch F w w') (hb:¬F b):BQ w' b n ν:=by
 obtain⟨⟨D,⟨es,clock,hg,r⟩,h2⟩,h3,h4⟩:=h;exact⟨⟨D,⟨es,clock,hc.row hg hb,r⟩,h2⟩,h3,h4⟩
theorem BQ.lt (h:BQ w b n ν):b<w.heap.size:=by
 obtain⟨⟨D,h1,h2⟩,h3,h4⟩:=h;exact h1.lt
theorem BQ.made (w:World):BQ (w.alloc (.map #[] 0)) w.heap.size 0 [] :=
 ⟨⟨_,World.ownsMap_made w _ _ _,rfl,fun x=>⟨rfl,by simp[DataW.atKey,Nms.get]⟩⟩,List.nodup_nil,fun x hx=>by cases hx⟩
theorem BQ.look (h:BQ w b n ν) {x:List UInt8} (hx:x.length≤maxLen) :
 (Instr.lookup 211 (.map (some b)) (.string (BH x)) true).run Tryz.prog w=.ok (.tuple #[.int .i64 (ν.get x),.bool (decide (x∈ν.names))]) w:=by
 obtain⟨⟨D,h1,_,h2⟩,_⟩:=h;obtain⟨v,ps,hr,hv⟩:=h1.look_ok Nw Tryz.underlying211 (Ka w) (plainElem_int Tryz.underlying3 (by decide)) (Ft x hx);obtain⟨c,rfl,hc,_⟩:=plainElem_int_inv Tryz.underlying3 hv;have e:=(h2 x).2;simp only[Prod.mk.injEq] at hc;rw[show Mv 0=.lit (.int .i64 0) from rfl,hc.1] at e;simp only[Mv,DataW.lit.injEq,Lit.int.injEq,true_and] at e;rw[hr,e,(h2 x).1]
theorem BQ.count (h:BQ w b n ν) (ty:TypeId):(Builtin.len_ #[211] ty #[.map (some b)]).run Tryz.prog w=.ok (.int .i64 (ν.length:Nat)) w:=by
 obtain⟨⟨D,h1,hs,h2⟩,_⟩:=h;rw[h1.len Tryz.underlying211 ty,hs]
theorem MP {b:Nat} (h:w.mapTurned w' b):Ch (fun k=>k=b) w w':=(Ch.refl _ w).grown h.grown (fun k hk=>.inl (by cases hk;rfl))
theorem BQ.put (h:BQ w b n ν) (hn:n<maxLen) {x:List UInt8} (hx:x.length≤maxLen) {c:Int} (hc:(Lit.int .i64 c).wf=true) :
 ∃w',(Instr.mapUpdate 211 (.map (some b)) (.string (BH x)) (.int .i64 c)).run Tryz.prog w=.ok () w'∧BQ w' b (n+1) (ν.set x c)∧Ch (fun k=>k=b) w w':=by
 obtain⟨⟨D,h1,hs,h2⟩,h3,h4⟩:=h;obtain⟨w',hr,ho,ht⟩:=h1.store Nw Tryz.underlying211 hn (Ft x hx) (plainElem_int Tryz.underlying3 hc);refine⟨w',hr,⟨⟨_,ho,?_,fun z=>?_⟩,Nms.Q9 h3 x c,fun z hz=>?_⟩,MP ht⟩
 · rw[Maps.size_put (h1.tidy Nw),(h2 x).1,hs]
   have hl:=Nms.KS h3 x
   show _=(Nms.cut ν x).length+1
   by_cases e:x∈ν.names
   · rw[if_pos e] at hl
     rw[if_pos (decide_eq_true e)];omega
   rw[if_neg e] at hl;rw[if_neg (by simpa using e)];omega
 · by_cases e:z=x
   · subst e
     refine⟨?_,?_⟩
     · rw[Maps.has_put_same h1.isMap (Lw hx)]
       exact(decide_eq_true (show z∈(Nms.set ν z c).names from List.mem_cons_self ..)).symm
     rw[Maps.atKey_put_same h1.isMap (Lw hx),Nms.Kz];rfl
   have hne:(Lit.string z)≠.string x:=fun h=>e (by injection h)
   refine⟨?_,?_⟩
   · rw[Maps.has_put_other hne,(h2 z).1]
     refine decide_eq_decide.2 ?_
     show _↔z∈x::(Nms.cut ν x).names
     rw[List.mem_cons,Nms.Cu];exact⟨fun h=>.inr ⟨h,e⟩,fun h=>(h.resolve_left e).1⟩
   rw[Maps.atKey_put_other hne,(h2 z).2,Nms.CJ e]
 rcases List.mem_cons.1 (show z∈x::(Nms.cut ν x).names from hz) with rfl|h
 · exact hx
 exact h4 z (Nms.Cu.1 h).1
theorem BQ.drop (h:BQ w b n ν) {x:List UInt8} (hx:x.length≤maxLen) (ty:TypeId) :
 ∃w',(Builtin.delete_ #[211,9] ty #[.map (some b),.string (BH x)]).run Tryz.prog w=.ok (.tuple #[]) w'∧BQ w' b n (ν.cut x)∧Ch (fun k=>k=b) w w':=by
 obtain⟨⟨D,h1,hs,h2⟩,h3,h4⟩:=h;obtain⟨w',hr,ho,ht⟩:=h1.drop Nw Tryz.underlying211 (Ft x hx) ty;refine⟨w',hr,⟨⟨_,ho,?_,fun z=>?_⟩,Nms.Ly h3 x,fun z hz=>h4 z (Nms.Cu.1 hz).1⟩,MP ht⟩
 · have h5:=Maps.size_del (k:=.string x) (h1.tidy Nw)
   have hl:=Nms.KS h3 x;rw[(h2 x).1,hs] at h5;by_cases e:x∈ν.names
   · rw[if_pos e] at hl
     rw[if_pos (decide_eq_true e)] at h5;omega
   rw[if_neg e] at hl;rw[if_neg (by simpa using e)] at h5;omega
 by_cases e:z=x
 · subst e
   refine⟨?_,?_⟩
   · rw[Maps.has_del_same]
     exact(decide_eq_false (fun h=>(Nms.Cu.1 h).2 rfl)).symm
   rw[Maps.atKey_del_same,Nms.Mh]
 have hne:(Lit.string z)≠.string x:=fun h=>e (by injection h)
 refine⟨?_,?_⟩
 · rw[Maps.has_del_other hne,(h2 z).1]
   refine decide_eq_decide.2 ?_;rw[Nms.Cu];exact⟨fun h=>⟨h,e⟩,fun h=>h.1⟩
 rw[Maps.atKey_del_other hne,(h2 z).2,Nms.QL e]
end
end Go.Proofs.YtngbdbpofifimaaGreat.Store
namespace Go.Proofs.YtngbdbpofifimaaGreat.Store
open Go.RowKit Go.Proofs.YtngbdbpofifimaaGreat.Path Go.Maps
structure Dg (w:World) (b n:Nat) (ν:Nms):Prop where
 ex:∃D,w.ownsMap Tryz.prog 47 Kb b n D∧∀x:List UInt8,x.length=32→Maps.has D (kl x)=decide (x∈ν.names)∧D.atKey (kl x) (Mv 0)=Mv (ν.get x)
section
variable {w w' : World} {b n : Nat} {ν : Nms}
theorem Dg.Af {F:Nat→Prop} (h:Dg w b n ν) (hc:Ch F w w') (hb:¬F b):Dg w' b n ν:=by
 obtain⟨D,⟨es,clock,hg,r⟩,h2⟩:=h;exact⟨D,⟨es,clock,hc.row hg hb,r⟩,h2⟩
theorem Dg.lt (h:Dg w b n ν):b<w.heap.size:=by
 obtain⟨D,h1,h2⟩:=h;exact h1.lt
theorem Dg.made (w:World):Dg (w.alloc (.map #[] 0)) w.heap.size 0 [] :=
 ⟨_,World.ownsMap_made w _ _ _,fun x _=>⟨rfl,by simp[DataW.atKey,Nms.get]⟩⟩
theorem Dg.look (h:Dg w b n ν) {x:List UInt8} (hx:x.length=32) :
 (Instr.lookup 311 (.map (some b)) (.agg (AK x)) true).run Tryz.prog w=.ok (.tuple #[.int .i64 (ν.get x),.bool (decide (x∈ν.names))]) w:=by
 obtain⟨D,h1,h2⟩:=h;obtain⟨v,ps,hr,hv⟩:=h1.look_ok VZ Tryz.underlying311 (Ka w) (plainElem_int Tryz.underlying3 (by decide)) (IS hx);obtain⟨c,rfl,hc,_⟩:=plainElem_int_inv Tryz.underlying3 hv;have e:=(h2 x hx).2;simp only[Prod.mk.injEq] at hc;rw[show Mv 0=.lit (.int .i64 0) from rfl,hc.1] at e;simp only[Mv,DataW.lit.injEq,Lit.int.injEq,true_and] at e;rw[hr,e,(h2 x hx).1]
theorem SC {w:World} {b n:Nat} {ν:Nms} (h:Dg w b n ν) (hn:n<maxLen) {ops:Array Oper} {rest:List Oper} {o:Oper} {a:Act} {Q:Exit→Act→World→Prop}
 (hg:o.guard=none) (m x v:Operand) (hop:o.op=Op.mapUpdate 311 m x v) (hm:a.eval m=.map (some b)) (k:List UInt8) (hk:k.length=32) (hx:a.eval x=.agg (AK k)) (c:Int) (hv:a.eval v=.int .i64 c) (hc:(Lit.int .i64 c).wf=true)
 (hK:∀w',Dg w' b (n+1) (ν.set k c)→Ch (fun k=>k=b) w w'→wpList Tryz.prog ops Q rest (a.put o.dst undef) w'):wpList Tryz.prog ops Q (o::rest) a w:=by
 obtain⟨D,h1,h2⟩:=h;refine wpList_mapUpdate_own w hg m x v _ hop 47 3 VZ Tryz.underlying311 Kb b n D hm h1 hn _ _ (kl k) hx hv (IS hk) (Mv c) [] (plainElem_int Tryz.underlying3 hc) ?_;intro w' h3 h4;refine hK w' ⟨_,h3,fun z hz=>?_⟩ ((Ch.refl _ w).grown h4 (fun k hk=>.inl (by cases hk;rfl)));by_cases e:z=k
 · subst e
   refine⟨?_,?_⟩
   · rw[Maps.has_put_same h1.isMap (Tp hk)]
     exact(decide_eq_true (show z∈(Nms.set ν z c).names from List.mem_cons_self ..)).symm
   rw[Maps.atKey_put_same h1.isMap (Tp hk),Nms.Kz]
 have hne:kl z≠kl k:=fun he=>e (WJ hz hk he)
 refine⟨?_,?_⟩
 · rw[Maps.has_put_other hne,(h2 z hz).1]
   refine decide_eq_decide.2 ?_
   show _↔z∈k::(Nms.cut ν k).names
   rw[List.mem_cons,Nms.Cu];exact⟨fun h=>.inr ⟨h,e⟩,fun h=>(h.resolve_left e).1⟩
 rw[Maps.atKey_put_other hne,(h2 z hz).2,Nms.CJ e]
end
end Go.Proofs.YtngbdbpofifimaaGreat.Store
namespace Go.Proofs.YtngbdbpofifimaaGreat.Law9
open Go.RowKit Go.Sort Go.Proofs.YtngbdbpofifimaaGreat.ShaW Go.Proofs.YtngbdbpofifimaaGreat.Path Go.Proofs.YtngbdbpofifimaaGreat.Store
def Wm.bare (x:Wm):Wm:=if x.gone then ⟨x.key,true,.slice none 0 0,[]⟩ else x
theorem Wm.B7 (x:Wm):x.bare.key=x.key:=by unfold Wm.bare;split<;>rfl
theorem Wm.Ln {w:World} {x:Wm} (h:x.Good w):x.bare.Good w:=by
 unfold Wm.bare;split
 · exact⟨h.key,Bytes.nil w,fun h=>absurd rfl h⟩
 exact h
inductive DF:List Wm→List Wm→Prop
 | nil:DF [] []
 | new {l out:List Wm} {x:Wm} (h:DF l out) (hp:∀q∈out,q.key≠x.key):DF (l ++ [x]) (out ++ [x.bare])
 | old {l out:List Wm} {x q:Wm} {i:Nat} (h:DF l out) (hq:out[i]?=some q) (hk:q.key=x.key):DF (l ++ [x]) (out.set i x.bare)
theorem DF.mem {l out:List Wm} (h:DF l out):∀y∈out,∃x∈l,y=x.bare:=by
 induction h with
 | nil=>exact fun _ h=>by cases h
 | new h hp ih =>
  intro y hy;rcases List.mem_append.1 hy with hy|hy
  · obtain⟨x,hx,e⟩:=ih y hy
    exact⟨x,List.mem_append_left _ hx,e⟩
  exact⟨_,List.mem_append_right _ (List.mem_singleton.2 rfl),List.mem_singleton.1 hy⟩
 | old h hq hk ih =>
  intro y hy;rcases List.mem_or_eq_of_mem_set hy with hy|hy
  · obtain⟨x,hx,e⟩:=ih y hy
    exact⟨x,List.mem_append_left _ hx,e⟩
  exact⟨_,List.mem_append_right _ (List.mem_singleton.2 rfl),hy⟩
theorem DF.len {l out:List Wm} (h:DF l out):out.length≤l.length:=by
 induction h with
 | nil=>exact Nat.le_refl _
 | new h hp ih=>simp only[List.length_append,List.length_singleton];omega
 | old h hq hk ih=>simp only[List.length_append,List.length_singleton,List.length_set];omega
theorem Il {α β:Type} (f:α→β):∀(l:List α) (i:Nat) (x q:α),l[i]?=some q→f x=f q→(l.set i x).map f=l.map f
 | [],i,x,q,h,_=>by simp at h
 | a::l,0,x,q,h,e=>by simp at h;subst h;simp[e]
 | a::l,i+1,x,q,h,e=>by
  have:=Il f l i x q (by simpa using h) e;simp[this]
theorem DF.nodup {l out:List Wm} (h:DF l out):(out.map (·.key)).Nodup:=by
 induction h with
 | nil=>exact List.nodup_nil
 | new h hp ih =>
  rw[List.map_append,List.nodup_append];refine⟨ih,by simp,fun a ha b hb e=>?_⟩;obtain⟨q,hq,rfl⟩:=List.mem_map.1 ha;simp at hb;rw[Wm.B7] at hb;exact hp q hq (e.trans hb)
 | @old l out x q i h hq hk ih =>
  rw[Il _ _ _ _ _ hq (by rw[Wm.B7,hk])];exact ih
structure Idx (κ:Nms) (out:List Wm):Prop where
 mem:∀k:List UInt8,k∈κ.names↔∃q∈out,q.key=k
 at_:∀(i:Nat) q,out[i]?=some q→κ.get q.key=i
theorem Idx.new {κ:Nms} {out:List Wm} {x:Wm} (h:Idx κ out) (hx:∀q∈out,q.key≠x.key):Idx (κ.set x.key out.length) (out ++ [x.bare]):=by
 refine⟨fun k=>?_,fun i q hq=>?_⟩
 · show k∈x.key::(κ.cut x.key).names↔_
   rw[List.mem_cons,Nms.Cu,h.mem];constructor
   · rintro(rfl|⟨⟨q,hq,e⟩,_⟩)
     · exact⟨x.bare,by simp,Wm.B7 x⟩
     exact⟨q,by simp[hq],e⟩
   rintro⟨q,hq,e⟩;rcases List.mem_append.1 hq with hq|hq
   · exact .inr ⟨⟨q,hq,e⟩,fun e2=>hx q hq (e.trans e2)⟩
   rw[List.mem_singleton.1 hq,Wm.B7] at e;exact .inl e.symm
 rcases Nat.lt_or_ge i out.length with hi|hi
 · rw[List.getElem?_append_left hi] at hq
   rw[Nms.CJ (fun e=>hx q (List.mem_of_getElem? hq) e)];exact h.at_ i q hq
 have hi2:=(List.getElem?_eq_some_iff.1 hq).1;rw[List.length_append,List.length_singleton] at hi2;have:i=out.length:=by omega
 subst this;rw[List.getElem?_append_right (Nat.le_refl _)] at hq;simp at hq;rw[←hq,Wm.B7,Nms.Kz]
theorem Idx.old {κ:Nms} {out:List Wm} {x q:Wm} {i:Nat} (h:Idx κ out) (hq:out[i]?=some q) (hk:q.key=x.key):Idx κ (out.set i x.bare):=by
 have hi:=(List.getElem?_eq_some_iff.1 hq).1
 have hke:∀(j:Nat) (y:Wm),(out.set i x.bare)[j]?=some y→∃z:Wm,out[j]?=some z∧z.key=y.key:=fun j y hy=>by
  by_cases e:i=j
  · subst e
    rw[List.getElem?_set_self hi] at hy;cases hy;exact⟨q,hq,by rw[hk,Wm.B7]⟩
  rw[List.getElem?_set_ne e] at hy;exact⟨y,hy,rfl⟩
 refine⟨fun k=>?_,fun j y hy=>?_⟩
 · rw[h.mem]
   constructor
   · rintro⟨y,hy,e⟩
     obtain⟨j,hj⟩:=List.getElem?_of_mem hy;by_cases e2:i=j
     · subst e2
       rw[hq] at hj;cases hj;exact⟨x.bare,List.mem_of_getElem? (List.getElem?_set_self hi),by rw[Wm.B7, ←hk,e]⟩
     exact⟨y,List.mem_of_getElem? (by rw[List.getElem?_set_ne e2];exact hj),e⟩
   rintro⟨y,hy,e⟩;obtain⟨j,hj⟩:=List.getElem?_of_mem hy;obtain⟨z,hz,e2⟩:=hke j y hj;exact⟨z,List.mem_of_getElem? hz,e2.trans e⟩
 obtain⟨z,hz,e⟩:=hke j y hy;rw[←e];exact h.at_ j z hz
theorem Idx.nil:Idx [] []:=⟨fun k=>⟨fun h=>(by cases h),fun ⟨q,hq,_⟩=>(by cases hq)⟩,fun i q hq=>(by simp at hq)⟩
def Hs:Wm:=⟨List.replicate 32 0,false,.slice none 0 0,[]⟩
theorem P8:(Tryz.prog.info? 134).bind (·.zero)=some (.agg Hs.cells):=by kernel_rfl
theorem J2:∃i z,Tryz.prog.info? 134=some i∧i.zero=some z∧i.size=34∧i.bytes=64∧z.cells.size=34:=by
 obtain⟨i,h1,h2,h3,h4⟩:=info_parts (P:=Tryz.prog) (e:=134) (z:=.agg Hs.cells) (size:=34) (bytes:=64) (by kernel_rfl);exact⟨i,_,h1,h2,h3,h4,rfl⟩
theorem Pq {x:Wm} (h:x.key.length=32) (hg:x.gone=true):x.cells.setIfInBounds 33 (.slice none 0 0)=x.bare.cells:=by
 unfold Wm.bare;rw[if_pos hg];apply Array.ext';rw[Array.toList_setIfInBounds,Wm.list,Wm.list];rw[List.set_append_right _ _ (by simp[h])];simp[h,hg]
theorem SQ {w0 w:World} {base:Nat} {v:Value} {out:List Wm} (h:DV 134 34 Wm.cells w base v out) (hb:w0.heap.size≤base) (hg:∀x∈out,x.Good w0) (a:Adds w0 w) (hn:out.length≤100000) :
 Calls Tryz.prog 214 #[v,.func (.func 215) #[] #[]] w fun e w'=>e=.returned (.tuple #[])∧Adds w0 w' ∧
  ∃l' ao cap,v=.slice ao l'.length cap∧l'.length=out.length∧(l'.length≤cap∨l' = [])∧l'.Perm out∧Du (l'.map Wm.ent)∧CQ w' ao l':=by
 by_cases hl:out = []
 · subst hl
   obtain⟨ao,cap,rfl⟩:=h.form;exact(AnyF.slices_SortFunc_none Su ao cap (.func (.func 215) #[] #[]) w).mono fun e w2 ⟨he,hw⟩=>⟨he,by rw[hw];exact a,[],ao,cap,rfl,rfl,.inr rfl,.refl _,List.Pairwise.nil,CQ.nil _ _⟩
 obtain⟨g,cap,cur,rfl,hbg,hcap,hrow,hsz,hx,_⟩:=h.open (fun x hx=>Wm.size (hg x hx).key) (List.length_pos_iff.2 hl)
 obtain⟨d,hd⟩:∃d:List WmK,d.map WmK.p=out:=by
  have:∀l:List Wm,(∀x∈l,x.key.length=32∧x.vv.oneCell'=true)→∃d:List WmK,d.map WmK.p=l:=by
   intro l
   induction l with
   | nil=>exact fun _=>⟨[],rfl⟩
   | cons x l ih =>
    intro h;obtain⟨d,hd⟩:=ih (fun y hy=>h y (by simp[hy]));have hx:=h x (by simp);exact⟨⟨x,hx.1,hx.2⟩::d,by simp[hd]⟩
  exact this out fun x hx=>⟨(hg x hx).key,by obtain⟨ao,cap,e,_⟩:=(hg x hx).val.form;rw[e];rfl⟩
 have hdl:d.length=out.length:=by rw[←hd,List.length_map]
 have hH:HoldsK Eo 34 w g 0 d.toArray:=Qs hrow fun i x hi=>by
  have hi':d[i]?=some x:=by simpa using hi
  have hil:=(List.getElem?_eq_some_iff.1 hi').1;exact⟨by omega,hx i x.p (by rw[←hd,List.getElem?_map,hi'];rfl)⟩
 have hs:=TM (cap:=cap) hH (Ag hrow) (by simp;omega);rw[List.size_toArray,hdl] at hs;refine hs.mono fun e w2 ⟨he,d',h1,h2,h3,h4,h5⟩=>?_
 have hw2:Adds w0 w2:=a.trans h5 (fun k hk=>.inr (by omega));have hp:(d'.toList.map WmK.p).Perm out:=by rw[←hd];exact h2.map _
 have hlen:(d'.toList.map WmK.p).length=out.length:=hp.length_eq;refine⟨he,hw2,d'.toList.map WmK.p,some ⟨g,0,none⟩,cap,by rw[hlen],hlen,.inl (by rw[hlen];exact hcap),hp,?_,fun x hx=>(hg x (hp.mem_iff.1 hx)).Af hw2 (fun _=>fEq),fun i x hi=>⟨g,0,rfl,?_⟩⟩
 · unfold Du
   rw[List.map_map,List.pairwise_map];exact h3
 rw[List.getElem?_map] at hi;cases hy:d'[i]? with
 | none=>rw[Array.getElem?_toList,hy] at hi;cases hi
 | some y =>
  rw[Array.getElem?_toList,hy] at hi;cases hi;exact RL h4 hy
structure JJ (w wr:World) (b:Nat) (v:Value) (l out:List Wm) (k:Nat):Prop where
 lasts:DF (l.take k) out
 row:DV 134 34 Wm.cells wr w.heap.size v out
 idx:∃κ,Dg wr b k κ∧Idx κ out
 bge:w.heap.size≤b∧v.ownBlock≠some b
 world:Adds w wr
theorem JJ.adds {w wr w':World} {b:Nat} {v:Value} {l out:List Wm} {k:Nat} (h:JJ w wr b v l out k) (a:Adds wr w'):JJ w w' b v l out k:=by
 obtain⟨κ,h1,h2⟩:=h.idx;exact⟨h.lasts,h.row.adds a,⟨κ,h1.Af a id,h2⟩,h.bge,h.world.trans a (fun _=>fEq)⟩
end Go.Proofs.YtngbdbpofifimaaGreat.Law9

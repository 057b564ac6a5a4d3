/- Laws of the layers below. -/
import Derived.Test.YtooijgcildbnlaaGreatQj20
set_option maxHeartbeats 3200000
set_option maxRecDepth 100000
set_option linter.unusedVariables false
namespace Go.Proofs.YtooijgcildbnlaaGreat.BE
open Go.RowKit Go.Proofs.YtooijgcildbnlaaGreat.ShaW Go.Proofs.YtooijgcildbnlaaGreat.Path Go.Proofs.YtooijgcildbnlaaGreat.Store
section
variable {α : Type} {cells : α→Array Value} {m : Nat}
def BG (cells:α→Array Value) (l:List α):List Value:=l.flatMap fun x=>(cells x).toList
def Dw (cells:α→Array Value) (m:Nat) (l:List α):Prop:=∀x∈l,(cells x).size=m
theorem DB:∀(l:List α),Dw cells m l→(BG cells l).length=l.length*m
 | [],_=>by simp[BG]
 | x::l,h=>by
  have ih:=DB l (fun y hy=>h y (List.mem_cons_of_mem _ hy));have e:BG cells (x::l)=(cells x).toList++BG cells l:=by simp[BG]
  have e2:(l.length+1)*m=l.length*m+m:=Nat.succ_mul ..;rw[e,List.length_append,ih,Array.length_toList,h x (List.mem_cons_self ..),List.length_cons];omega
theorem Ce (l k:List α):BG cells (l++k)=BG cells l++BG cells k:=by simp[BG]
theorem Ev {l:List α} {i:Nat} {x:α} (hi:l[i]?=some x):BG cells l=BG cells (l.take i)++((cells x).toList++BG cells (l.drop (i+1))):=by
 obtain⟨hlt,rfl⟩:=List.getElem?_eq_some_iff.1 hi;have e:=List.take_append_drop i l;rw[List.drop_eq_getElem_cons hlt] at e;have e2:BG cells l=BG cells (l.take i++l[i]::l.drop (i+1)):=by rw[e]
 have e3:BG cells (l[i]::l.drop (i+1))=(cells l[i]).toList++BG cells (l.drop (i+1)):=List.flatMap_cons;rw[e2,Ce,e3]
theorem Hr {l:List α} (h:Dw cells m l) {i:Nat} (hi:i≤l.length):(BG cells (l.take i)).length=i*m:=by
 rw[DB (m:=m) _ (fun x hx=>h x (List.mem_of_mem_take hx)),List.length_take,Nat.min_eq_left hi]
theorem Lz {l:List α} (h:Dw cells m l) {i:Nat} {x:α} (hi:l[i]?=some x):((BG cells l).drop (i*m)).take m=(cells x).toList:=by
 have hlt:=(List.getElem?_eq_some_iff.1 hi).1;have hs:(cells x).toList.length=m:=by rw[Array.length_toList];exact h x (List.mem_of_getElem? hi)
 rw[Ev hi,List.drop_append_of_le_length (by rw[Hr h (by omega)];omega),List.drop_eq_nil_of_le (by rw[Hr h (by omega)];omega),List.nil_append,List.take_append_of_le_length (by omega),List.take_of_length_le (by omega)]
theorem QC {l:List α} (h:Dw cells m l) {i:Nat} (hi:i<l.length) {p:α} (hp:(cells p).size=m):splice (BG cells l) (i*m) (cells p).toList=BG cells (l.set i p):=by
 have hx:l[i]?=some l[i]:=List.getElem?_eq_getElem hi;have hp':(l.set i p)[i]?=some p:=by simp[hi]
 have hs:(cells l[i]).toList.length=m:=by rw[Array.length_toList];exact h _ (List.mem_of_getElem? hx)
 have hps:(cells p).toList.length=m:=by rw[Array.length_toList];exact hp
 have e2:(l.set i p).take i=l.take i:=by rw[List.take_set_of_le (Nat.le_refl _)]
 have e3:(l.set i p).drop (i+1)=l.drop (i+1):=by rw[List.drop_set_of_lt (Nat.lt_succ_self _)]
 rw[Ev hp',e2,e3,splice,hps];have ht:=Hr h (i:=i) (by omega)
 have e4:(BG cells l).take (i*m)=BG cells (l.take i):=by
  rw[Ev hx,List.take_append_of_le_length (by omega),List.take_of_length_le (by omega)]
 have e5:(BG cells l).drop (i*m+m)=BG cells (l.drop (i+1)):=by
  rw[Ev hx, ←List.append_assoc,List.drop_append,List.drop_eq_nil_of_le (by rw[List.length_append];omega),List.nil_append,List.length_append,ht,hs];simp
 rw[e4,e5,List.append_assoc]
def Cf (T:TypeId) (m:Nat) (cells:α→Array Value) (w:World) (b:Nat) (v:Value) (l:List α):Prop:=w.ownsRow b T m v l.length (BG cells l)
variable {w w' : World} {b : Nat} {v : Value} {l : List α} {T : TypeId}
theorem Cf.form (h:Cf T m cells w b v l):∃ao cap,v=.slice ao l.length cap:=As h
theorem Cf.adds (h:Cf T m cells w b v l) (a:Adds w w'):Cf T m cells w' b v l:=a.owns h (fun _ _ h=>h)
theorem Cf.nil (w:World) (b:Nat):Cf T m cells w b (.slice none 0 0) []:=World.ownsRow_nil _ _ _ _
theorem Cf.open (h:Cf T m cells w b v l) (hk:Dw cells m l) (hl:0<l.length):∃g cap cur,v=.slice (some ⟨g,0,none⟩) l.length cap∧b≤g∧l.length≤cap∧w.heap[g]?=some (.cells cur T (0,0))∧l.length*m≤cur.size ∧
 (∀i x,l[i]?=some x→cur.extract (i*m) (i*m+m)=cells x) ∧
 ∀i p,i<l.length→(cells p).size=m→Cf T m cells (w.setRow g (splice cur.toList (i*m) (cells p).toList).toArray) b v (l.set i p):=by
 obtain⟨h0,⟨_,h1⟩|⟨g,cap,cur,rfl,hb,hg,hn,hc,hs,ht⟩⟩:=h
 · omega
 have hle:l.length*m≤cap*m:=Nat.mul_le_mul_right _ hn;have up:∀i,i<l.length→i*m+m≤l.length*m:=fun i hi=>by have:=Nat.mul_le_mul_right m (show i+1≤l.length by omega);rwa [Nat.succ_mul] at this
 refine⟨g,cap,cur,rfl,hb,hn,hg,by omega,fun i x hx=>?_,fun i p hi hp=>?_⟩
 · have hm:=up i (List.getElem?_eq_some_iff.1 hx).1
   apply Array.ext';rw[←Lz hk hx, ←ht];simp only[Array.toList_extract,List.extract];rw[List.drop_take,List.take_take,show i*m+m-i*m=m by omega,Nat.min_eq_left (by omega)]
 have hps:(cells p).toList.length=m:=by rw[Array.length_toList];exact hp
 have hm:=up i hi
 have hsl:(splice cur.toList (i*m) (cells p).toList).length=cap*m:=by
  unfold splice;rw[List.length_append,List.length_append,List.length_take,List.length_drop,Array.length_toList,hps];omega
 have hks:Dw cells m (l.set i p):=fun x hx=>by
  rcases List.mem_or_eq_of_mem_set hx with h|h
  · exact hk x h
  rw[h];exact hp
 refine⟨by rw[DB (m:=m) _ hks],.inr ⟨g,cap,_,by rw[List.length_set],hb,AG hg _,by rw[List.length_set];exact hn,hc,by simpa using hsl,?_⟩⟩;rw[List.length_set, ←QC hk hi hp, ←ht];have hcl:cur.toList.length=cap*m:=by rw[Array.length_toList];exact hs
 unfold splice;rw[hps];rw[List.take_append,List.take_append,List.take_of_length_le (l:=cur.toList.take (i*m)) (by rw[List.length_take];omega),List.take_take,Nat.min_eq_left (by omega)];rw[List.length_append,List.length_take,hcl,hps,Nat.min_eq_left (by omega)];rw[List.take_of_length_le (l:=(cells p).toList) (by omega)]
 congr 1
 rw[List.drop_take]
theorem Cf.row (h:Cf T m cells w b v l) (hk:Dw cells m l) (hm:0<m):∃ao cap,v=.slice ao l.length cap∧Dl m cells w ao l∧(l.length≤cap∨l = []):=by
 obtain⟨ao,cap,e⟩:=h.form;by_cases h0:0<l.length
 · obtain⟨g,cap,cur,e2,hb,hn,hg,hs,hx,_⟩:=h.open hk h0
   refine⟨_,_,e2,fun i x hi=>⟨g,0,rfl,cur,T,(0,0),hg,?_,?_⟩,.inl hn⟩
   · have:=Nat.mul_le_mul_right m (show i+1≤l.length from(List.getElem?_eq_some_iff.1 hi).1)
     rw[Nat.succ_mul] at this;rw[hk x (List.mem_of_getElem? hi)];omega
   rw[hk x (List.mem_of_getElem? hi),Nat.zero_add];exact hx i x hi
 obtain rfl:l = []:=List.length_eq_zero_iff.1 (by omega);exact⟨ao,cap,e,fun i x hi=>(by simp at hi),.inr rfl⟩
theorem Nh {g off:Nat} (hk:Dw cells m l) (hm:0<m) (hl:∀(i:Nat) x,l[i]?=some x→CO w g (off+i*m) (cells x)):∀(j:Nat) u,(BG cells l)[j]?=some u→w.cell? ⟨g,off+j,none⟩=some u:=fun j u hu=>by
 have hj:=(List.getElem?_eq_some_iff.1 hu).1;rw[DB l hk] at hj;have hi:j / m<l.length:=Nat.div_lt_of_lt_mul (by rw[Nat.mul_comm];exact hj);have hx:l[j / m]?=some l[j / m]:=List.getElem?_eq_getElem hi;have hs:=hk _ (List.getElem_mem hi);obtain⟨cur,t,fr,hr,h1,h2⟩:=hl _ _ hx;have hmm:j % m<m:=Nat.mod_lt _ hm;have hdm:j / m*m+j % m=j:=Nat.div_add_mod' j m;have e1:((BG cells l).drop (j / m*m)).take m=(cells (l[j / m])).toList:=Lz hk hx
 have e2:(cells (l[j / m])).toList[j % m]?=some u:=by
  rw[←e1,List.getElem?_take,if_pos hmm,List.getElem?_drop,hdm];exact hu
 rw[show off+j=off+j / m*m+j % m by omega];refine AH hr ?_;rw[Array.getElem?_toList, ←h2,Array.getElem?_extract,if_pos (by omega)] at e2;exact e2
theorem Dl.news {ad:Addr} (h:Dl m cells w (some ad) l) (hk:Dw cells m l) (hm:0<m):∀(j:Nat) u,(BG cells l)[j]?=some u→w.cell? (ad.add j)=some u:=fun j u hu=>by
 have hj:=(List.getElem?_eq_some_iff.1 hu).1;rw[DB l hk] at hj;have hl0:0<l.length:=Nat.pos_of_mul_pos_right (Nat.lt_of_le_of_lt (Nat.zero_le _) hj);obtain⟨g,off,h1,_⟩:=h 0 _ (List.getElem?_eq_getElem hl0);injection h1 with h1;subst h1;rw[add_plain];refine Nh hk hm (fun i x hx=>?_) j u hu;obtain⟨g',off',h1',h2'⟩:=h i x hx;injection h1' with h1';injection h1' with a b;subst a b;exact h2'
end
end Go.Proofs.YtooijgcildbnlaaGreat.BE
namespace Go.Proofs.YtooijgcildbnlaaGreat.Store
open Go.RowKit Go.Proofs.YtooijgcildbnlaaGreat.ShaW Go.Proofs.YtooijgcildbnlaaGreat.Path
abbrev Wps:=List (List UInt8×Option (List UInt8))
def He (W:Wps):List (List UInt8):=W.map (·.1)
def Gg (W:Wps):AQ:=W.filterMap fun p=>p.2.map fun v=>(p.1,v)
def CV (L:AQ) (W:Wps):AQ:=Gg W++L.filter fun p => !decide (p.1∈He W)
def JM (b d:Nat) (W:Wps):Wps:=W.filter fun p=>AS p.1 d == b
theorem N0 {W:Wps} {q:List UInt8×List UInt8}:q∈Gg W↔(q.1,some q.2)∈W:=by
 unfold Gg;rw[List.mem_filterMap];constructor
 · rintro⟨⟨k,o⟩,hp,e⟩
   cases o with
   | none=>cases e
   | some v=>cases e;exact hp
 exact fun h=>⟨_,h,rfl⟩
theorem Gx:∀W:Wps,(keysOf (Gg W)).Sublist (He W)
 | []=>List.Sublist.refl _
 | (k,none)::W=>(Gx W).cons _
 | (k,some v)::W=>(Gx W).cons_cons _
theorem Lf (b d:Nat):∀W:Wps,sideE b d (Gg W)=Gg (JM b d W)
 | []=>rfl
 | (k,o)::W=>by
  have ih:=Lf b d W;unfold sideE JM Gg at ih ⊢;by_cases e:AS k d=b
  · cases o with
    | none=>simp[e];exact ih
    | some v=>simp[e];exact ih
  cases o with
  | none=>simp[e];exact ih
  | some v=>simp[e];exact ih
theorem Lh (b d:Nat) (L:AQ) (W:Wps):sideE b d (CV L W)=CV (sideE b d L) (JM b d W):=by
 unfold CV;rw[←Lf];unfold sideE;rw[List.filter_append,List.filter_filter,List.filter_filter]
 congr 1
 refine List.filter_congr fun p hp=>?_
 by_cases e:AS p.1 d=b
 · have:p.1∈He W↔p.1∈He (JM b d W):=by
    unfold He JM;simp only[List.mem_map,List.mem_filter,beq_iff_eq];exact⟨fun ⟨q,hq,e2⟩=>⟨q,⟨hq,by rw[e2];exact e⟩,e2⟩,fun ⟨q,hq,e2⟩=>⟨q,hq.1,e2⟩⟩
   have e':(AS p.1 d == b)=true:=by simpa using e
   simp only[e',Bool.and_true,Bool.true_and,this]
 have e':(AS p.1 d == b)=false:=by simpa using e
 simp only[e',Bool.and_false,Bool.false_and]
theorem Sc (L:AQ):CV L []=L:=by
 unfold CV Gg He;simp
structure WOk (W:Wps) (k:List UInt8) (d:Nat):Prop where
 nodup:(He W).Nodup
 len:∀p∈W,p.1.length=32
 pre:∀p∈W,Pre p.1 k d
 val:∀p∈W,∀v,p.2=some v→v.length≤1024
section
variable {L : AQ} {W : Wps} {k : List UInt8} {d : Nat}
theorem AQ.Ok.GS (h:L.Ok k d) {k':List UInt8} {b:Nat} (hp:Pre k' k d) (hb:AS k' d=b):AQ.Ok (sideE b d L) k' (d+1) :=
 ⟨(h.filter _).nodup,(h.filter _).len,fun p hm=>((h.pre p (List.mem_filter.1 hm).1).trans hp.symm).next (by
  have:=(List.mem_filter.1 hm).2;simp at this;omega)⟩
theorem Kq (hL:L.Ok k d) (hW:WOk W k d):(CV L W).Ok k d:=by
 have hm:∀p∈CV L W,(p.1,some p.2)∈W∨p∈L:=fun p hp=>by
  rcases List.mem_append.1 hp with h|h
  · exact .inl (N0.1 h)
  exact .inr (List.mem_filter.1 h).1
 refine⟨?_,fun p hp=>(hm p hp).elim (fun h=>hW.len _ h) (fun h=>hL.len _ h),fun p hp=>(hm p hp).elim (fun h=>hW.pre _ h) (fun h=>hL.pre _ h)⟩;unfold keysOf CV;rw[List.map_append];refine List.nodup_append.2 ⟨hW.nodup.sublist (Gx W),hL.nodup.sublist (keys_filter L _),fun a ha b hb e=>?_⟩;obtain⟨p,hp,e1⟩:=List.mem_map.1 hb;have h2:=(List.mem_filter.1 hp).2;have h3:=(Gx W).subset ha;simp[e1, ←e] at h2;exact h2 h3
theorem TA (hL:∀p∈L,p.2.length≤1024) (hW:WOk W k d):∀p∈CV L W,p.2.length≤1024:=fun p hp=>by
 rcases List.mem_append.1 hp with h|h
 · exact hW.val _ (N0.1 h) _ rfl
 exact hL p (List.mem_filter.1 h).1
theorem FK (k:List UInt8) (hk:k.length=32) {d:Nat} (hd:d<256) (b:Nat) (hb:b=0∨b=1):∃k':List UInt8,k'.length=32∧Pre k' k d∧AS k' d=b:=by
 by_cases e:AS k d=b
 · exact⟨k,hk,fun _ _=>rfl,e⟩
 obtain⟨x,hx⟩:∃x,k[d / 8]?=some x:=⟨_,List.getElem?_eq_getElem (by omega)⟩
 have hx2:k.getD (d / 8) 0=x:=by rw[List.getD_eq_getElem?_getD,hx];rfl
 obtain⟨y,hy⟩:∃y:UInt8,y=x ^^^ (UInt8.ofNat (2 ^ (7-d % 8))):=⟨_,rfl⟩
 have flip:∀(z:UInt8) (r:Fin 8),CJ (z ^^^ UInt8.ofNat (2 ^ (7-r.val))) r.val≠CJ z r.val∧∀i:Fin 8,i≠r→CJ (z ^^^ UInt8.ofNat (2 ^ (7-r.val))) i.val=CJ z i.val:=by
  have:∀(z:Fin 256) (r:Fin 8),CJ (UInt8.ofNat z.val ^^^ UInt8.ofNat (2 ^ (7-r.val))) r.val≠CJ (UInt8.ofNat z.val) r.val∧∀i:Fin 8,i≠r→CJ (UInt8.ofNat z.val ^^^ UInt8.ofNat (2 ^ (7-r.val))) i.val=CJ (UInt8.ofNat z.val) i.val:=by decide +kernel
  intro z r;have:=this ⟨z.toNat,z.toNat_lt⟩ r;simpa using this
 obtain⟨f1,f2⟩:=flip x ⟨d % 8,Nat.mod_lt _ (by decide)⟩;rw[show UInt8.ofNat (2 ^ (7-(⟨d % 8,Nat.mod_lt _ (by decide)⟩:Fin 8).val))=UInt8.ofNat (2 ^ (7-d % 8)) from rfl, ←hy] at f1 f2;have hl:d / 8<k.length:=by omega
 have hg:∀i,(k.set (d / 8) y).getD i 0=if d / 8=i then y else k.getD i 0:=fun i=>by
  rw[List.getD_eq_getElem?_getD,List.getD_eq_getElem?_getD,List.getElem?_set];by_cases e:d / 8=i
  · rw[if_pos e,if_pos e,if_pos hl];rfl
  rw[if_neg e,if_neg e]
 refine⟨k.set (d / 8) y,by rw[List.length_set];exact hk,fun i hi=>?_,?_⟩
 · unfold AS
   rw[hg];by_cases e2:d / 8=i / 8
   · rw[if_pos e2, ←e2,hx2]
     exact f2 ⟨i % 8,Nat.mod_lt _ (by decide)⟩ (fun h=>by have:=congrArg Fin.val h;simp only at this;omega)
   rw[if_neg e2]
 have h1:AS (k.set (d / 8) y) d=CJ y (d % 8):=by unfold AS;rw[hg,if_pos rfl]
 have h2:AS k d=CJ x (d % 8):=by unfold AS;rw[hx2]
 rw[h2] at e;rw[h1];have f1':CJ y (d % 8)≠CJ x (d % 8):=f1;rcases GD y (d % 8) with h3|h3<;>rcases GD x (d % 8) with h4|h4<;>rcases hb with h5|h5<;>omega
end
section
variable {σ σ1 σ2 σ' : AD Nd} {key k1 k2 : List UInt8} {r l a b old : Int} {d n m n1 m1 n2 m2 : Nat} {t tl tr : Tr}
structure Bt (σ σ':AD Nd) (key:List UInt8) (r:Int) (d:Nat) (t:Tr) (n m:Nat):Prop where
 good:Good σ'
 old:∀k x,sk σ k=some x→sk σ' k=some x
 held:∀k,k≠0→Store.held σ' k=Store.held σ k+(if k=r then 1 else 0)
 live:Store.live σ'≤Store.live σ+n
 total:Store.total σ'≤Store.total σ+m
 room:σ'.room=σ.room
 there:∀y,sk σ' r=some y→Pre y.key key d
 rep:Rep (sk σ') r d t
theorem Bt.JE (h:Bt σ σ' key r d t n m) {n' m':Nat} (hn:n≤n') (hm:m≤m'):Bt σ σ' key r d t n' m':=⟨h.good,h.old,h.held,Nat.le_trans h.live (by omega),Nat.le_trans h.total (by omega),h.room,h.there,h.rep⟩
theorem Bt.nil (G:Good σ) (key:List UInt8) (d:Nat):Bt σ σ key 0 d .nil 0 0 :=
 ⟨G,fun _ _ h=>h,fun k hk=>by rw[if_neg hk];omega,Nat.le_refl _,Nat.le_refl _,rfl,fun y hy=>(by rw[G.fit.zero] at hy;cases hy),.nil⟩
theorem Og (G:Good σ) (o:Int):Good (Au σ o):=by
 unfold Au;split
 · exact G.hold o
 exact G
theorem Bt.kept (G:Good σ) (hr:Rep (sk σ) r d t) (hp:∀y,sk σ r=some y→Pre y.key key d) (htot:Store.total σ<1073741824):Bt σ (Au σ r) key r d t 0 1:=by
 obtain⟨s1,s2,s3,s4,s5⟩:=Fy G (other:=r) hr.live htot;have e0:sk (Au σ r)=sk σ:=funext s1;refine⟨Og G r,fun k x hx=>by rw[s1];exact hx,fun k hk=>?_,by omega,s4,s5,by rw[e0];exact hp,by rw[e0];exact hr⟩;rw[s2];by_cases e:k=r
 · rw[if_pos ⟨hk,e⟩,if_pos e]
 rw[if_neg (fun h=>e h.2),if_neg e];omega
theorem Bt.leaf (G:Good σ) (hu:Store.live σ<σ.room) (k v:List UInt8) (vv:Value) (hk:k.length=32) (hv:v.length≤1024) (hp:Pre k key d):(Ay σ k v vv).2.1=0∧Bt σ (Ay σ k v vv).2.2 key (Ay σ k v vv).1 d (.leaf k v) 1 1:=by
 obtain⟨h0,h1,h2,h3,h4,h5,h6,h7⟩:=Hz G.sound (by rw[G.used];exact hu) k v vv hv;have hme:sk (Ay σ k v vv).2.2 (Ay σ k v vv).1=some (stat (Nd.leaf (Tag.EM k (Tag.Aw v)) k (Tag.Aw v) v vv)):=by rw[h3,if_pos rfl]
 refine⟨h0,G.leaf k v vv hk,fun i x hx=>?_,fun i hi=>?_,by omega,by omega,h7,fun y hy=>?_,?_⟩
 · rw[h3,if_neg (fun e=>by rw[e,h2] at hx;cases hx)];exact hx
 · rw[h4]
   by_cases e:i=(Ay σ k v vv).1
   · rw[if_pos e,if_pos e,e,DZ h2 G.sound];rfl
   rw[if_neg e,if_neg e];omega
 · rw[hme] at hy;cases hy;exact hp
 have:=Rep.leaf (d:=d) hme rfl;exact this
def Tr.isNil:Tr→Bool
 | .nil=>true
 | _=>false
theorem EX {t:Tr}:t.isNil=true↔t=.nil:=by
 cases t with
 | nil=>exact⟨fun _=>rfl,fun _=>rfl⟩
 | leaf _ _=>exact⟨fun h=>(by cases h),fun h=>(by cases h)⟩
 | node _ _=>exact⟨fun h=>(by cases h),fun h=>(by cases h)⟩
def KN (l r:Tr):Tr:=if l.isNil=true∧r.isNode=false then r else if r.isNil=true∧l.isNode=false then l else .node l r
noncomputable def G7 (σ:AD Nd) (d l r:Int):Int×AD Nd :=
 if l=0∧(nd σ r).kind≠2 then (r,σ) else if r=0∧(nd σ l).kind≠2 then (l,σ) else ((AY σ d l r).1,(AY σ d l r).2.2)
theorem Rep.S2 {f:View} (hz:f 0=none) {h:Int} (hr:Rep f h d t):(ndF f h).kind=2↔t.isNode=true:=by
 cases hr with
 | nil=>unfold ndF;rw[hz];exact⟨fun h=>(by cases h),fun h=>(by cases h)⟩
 | leaf hn hk=>rw[BN hn,hk];exact⟨fun h=>(by cases h),fun h=>(by cases h)⟩
 | node hn hk _ _ _=>rw[BN hn,hk];exact⟨fun _=>rfl,fun _=>rfl⟩
theorem Rep.GU {f:View} (hz:f 0=none) {h:Int} (hr:Rep f h d t):h=0↔t=.nil:=by
 constructor
 · rintro rfl;exact hr.zero hz
 rintro rfl;cases hr with
 | nil=>rfl
theorem FX {h:Int} (hz:sk σ 0=none) (hr:Rep (sk σ) h d t):(nd σ h).kind=2↔t.isNode=true:=by
 rw[←hr.S2 hz,EK];exact Iff.rfl
theorem Rc (G:Good σ) (hd:d≤255) (rl:Rep (sk σ) l (d+1) tl) (rr:Rep (sk σ) r (d+1) tr) (pl:∀y,sk σ l=some y→Pre y.key key d∧AS y.key d=0) (pr:∀y,sk σ r=some y→Pre y.key key d∧AS y.key d=1)
 (h1:l=0→(nd σ r).kind=2) (h2:r=0→(nd σ l).kind=2):Be d l r (nd σ l) (nd σ r)=true:=by
 have hz:=G.fit.zero;have kz:∀ {h:Int},(nd σ h).kind=2→h≠0:=fun h e=>by rw[e] at h;cases h
 rw[Fb]
 have lfit:l≠0→∃y,sk σ l=some y∧Bv (ndF (sk σ) l) (d:Nat) 0=true:=fun e=>by
  obtain⟨y,y1⟩:=rl.live.resolve_left e;refine⟨y,y1,?_⟩;rw[BN y1];refine Gm (fun hk=>by have:=rl.DO y1 hz hk;omega) ?_;rw[Ct (by omega),(pl y y1).2];rfl
 have rfit:r≠0→∃y,sk σ r=some y∧Bv (ndF (sk σ) r) (d:Nat) 1=true:=fun e=>by
  obtain⟨y,y1⟩:=rr.live.resolve_left e;refine⟨y,y1,?_⟩;rw[BN y1];refine Gm (fun hk=>by have:=rr.DO y1 hz hk;omega) ?_;rw[Ct (by omega),(pr y y1).2];rfl
 unfold Be;by_cases e1:l=0
 · have e2:=h1 e1
   have r0:=kz e2;obtain⟨y,y1,y2⟩:=rfit r0;rw[if_pos e1,if_neg r0,y2];have:(ndF (sk σ) r).kind=2:=by rw[EK];exact e2
   simp[this]
 obtain⟨y,y1,y2⟩:=lfit e1;rw[if_neg e1];by_cases e2:r=0
 · have:=h2 e2
   have:(ndF (sk σ) l).kind=2:=by rw[EK];exact this
   rw[if_pos e2,y2];simp[this]
 obtain⟨z,z1,z2⟩:=rfit e2;have zl:z.key.length=32:=(G.fit.all _ _ z1).key;have yl:y.key.length=32:=(G.fit.all _ _ y1).key;have:=Ci yl zl (d:=d) (by omega) ((pl y y1).1.trans (pr z z1).1.symm);rw[if_neg e2,y2,z2,BN y1,BN z1];simp;omega
theorem Bt.Li (A:Bt σ σ1 k1 l (d+1) tl n1 m1) (B:Bt σ1 σ2 k2 r (d+1) tr n2 m2) (k:Int) (hk:k≠0):Store.held σ2 k=Store.held σ k+(if k=l then 1 else 0)+(if k=r then 1 else 0):=by
 rw[B.held k hk,A.held k hk]
theorem Bt.TT (G:Good σ) (hd:d≤255) (A:Bt σ σ1 k1 l (d+1) tl n1 m1) (B:Bt σ1 σ2 k2 r (d+1) tr n2 m2) (p1:Pre k1 key d) (b1:AS k1 d=0) (p2:Pre k2 key d) (b2:AS k2 d=1) (hroom:Store.live σ+n1+n2<σ.room) :
 Bt σ (G7 σ2 d l r).2 key (G7 σ2 d l r).1 d (KN tl tr) (n1+n2+1) (m1+m2+1):=by
 have G2:=B.good;have hz:=G2.fit.zero;have rl:Rep (sk σ2) l (d+1) tl:=A.rep.grow B.old;have rr:=B.rep;have hh:=A.Li B;have hl:=A.live;have hl2:=B.live;have ht:=A.total;have ht2:=B.total;have hr2:σ2.room=σ.room:=B.room.trans A.room
 have pl:∀y,sk σ2 l=some y→Pre y.key key d∧AS y.key d=0:=fun y hy=>by
  obtain⟨x,hx⟩:=A.rep.live.resolve_left (fun e=>by rw[e,hz] at hy;cases hy);have:=B.old l x hx;rw[hy] at this;cases this;have h1:=A.there y hx;exact⟨(h1.less (by omega)).trans p1,(h1 d (by omega)).trans b1⟩
 have pr:∀y,sk σ2 r=some y→Pre y.key key d∧AS y.key d=1:=fun y hy=>by
  have h1:=B.there y hy;exact⟨(h1.less (by omega)).trans p2,(h1 d (by omega)).trans b2⟩
 have kl:=FX hz rl;have kr:=FX hz rr;have zl:=(rl.GU hz).trans EX.symm;have zr:=(rr.GU hz).trans EX.symm;have node0:∀ {t:Tr},¬t.isNode=true→t.isNode=false:=fun h=>by simpa using h
 have up:∀ {t:Tr} {h:Int},Rep (sk σ2) h (d+1) t→t.isNode=false→Rep (sk σ2) h d t:=fun hr ht=>by
  cases hr with
  | nil=>exact .nil
  | leaf hn hk=>exact .leaf hn hk
  | node _ _ _ _ _=>cases ht
 unfold G7 KN;by_cases c1:l=0∧(nd σ2 r).kind≠2
 · have t1:tl.isNil=true∧tr.isNode=false:=⟨zl.1 c1.1,node0 (fun h=>c1.2 (kr.2 h))⟩
   rw[if_pos c1,if_pos t1];refine⟨G2,fun k x hx=>B.old k x (A.old k x hx),fun k hk=>?_,(by show Store.live σ2≤_;omega),(by show Store.total σ2≤_;omega),hr2,fun y hy=>(pr y hy).1,up rr (node0 (fun h=>c1.2 (kr.2 h)))⟩;rw[hh k hk,if_neg (fun e=>hk (e.trans c1.1))];omega
 have t1:¬(tl.isNil=true∧tr.isNode=false):=fun h=>c1 ⟨zl.2 h.1,fun e=>by have:=kr.1 e;rw[h.2] at this;cases this⟩
 rw[if_neg c1,if_neg t1];by_cases c2:r=0∧(nd σ2 l).kind≠2
 · have t2:tr.isNil=true∧tl.isNode=false:=⟨zr.1 c2.1,node0 (fun h=>c2.2 (kl.2 h))⟩
   rw[if_pos c2,if_pos t2];refine⟨G2,fun k x hx=>B.old k x (A.old k x hx),fun k hk=>?_,(by show Store.live σ2≤_;omega),(by show Store.total σ2≤_;omega),hr2,fun y hy=>(pl y hy).1,up rl (node0 (fun h=>c2.2 (kl.2 h)))⟩;rw[hh k hk];rw[if_neg (c:=k=r) (fun e=>hk (e.trans c2.1))];omega
 have t2:¬(tr.isNil=true∧tl.isNode=false):=fun h=>c2 ⟨zr.2 h.1,fun e=>by have:=kl.1 e;rw[h.2] at this;cases this⟩
 rw[if_neg c2,if_neg t2]
 have h1:l=0→(nd σ2 r).kind=2:=fun e=>by
  by_cases h:(nd σ2 r).kind=2
  · exact h
  exact absurd ⟨e,h⟩ c1
 have h2:r=0→(nd σ2 l).kind=2:=fun e=>by
  by_cases h:(nd σ2 l).kind=2
  · exact h
  exact absurd ⟨e,h⟩ c2
 have hf:=Rc G2 hd rl rr pl pr h1 h2;have hu:σ2.used<σ2.room:=by rw[G2.used,hr2];omega
 have sl:CE σ2 l:=⟨by
  by_cases e:l=0
  · exact .inl e
  right;have:=Bi G.sound l;rw[hh l e,if_pos rfl];split<;>omega⟩
 have sr:CE σ2 r:=⟨by
  by_cases e:r=0
  · exact .inl e
  right;have:=Bi G.sound r;rw[hh r e,if_pos (c:=r=r) rfl];split<;>omega⟩
 obtain⟨q0,q1,q2,q3,q4,q5,q6,q7⟩:=EA G2.sound hu (by omega) (by omega) sl sr hf;obtain⟨hT,z,hz1,hz2⟩:=FQ G2 hu hd sl sr hf rl rr (fun y hy=>(pl y hy).1) (fun y hy=>(pr y hy).1)
 have hnone:sk σ (AY σ2 d l r).1=none:=by
  cases hx:sk σ (AY σ2 d l r).1 with
  | none=>rfl
  | some x=>have:=B.old _ x (A.old _ x hx);rw[q2] at this;cases this
 have hnl:(AY σ2 d l r).1≠l:=fun e=>by
  obtain⟨x,hx⟩:=rl.live.resolve_left (fun e0=>q1 (e.trans e0));rw[e,hx] at q2;cases q2
 have hnr:(AY σ2 d l r).1≠r:=fun e=>by
  obtain⟨x,hx⟩:=rr.live.resolve_left (fun e0=>q1 (e.trans e0));rw[e,hx] at q2;cases q2
 have hlr:l≠0→l≠r:=fun e0 e=>by
  obtain⟨x,hx⟩:=rl.live.resolve_left e0;have e1:=(pl x hx).2;have e2:=(pr x (by rw[←e];exact hx)).2;omega
 refine⟨G2.inner _ _ _,fun k x hx=>?_,fun k hk=>?_,(by show Store.live (AY σ2 d l r).2.2≤_;omega),(by show Store.total (AY σ2 d l r).2.2≤_;omega),q7.trans hr2,fun y hy=>?_,hT⟩
 · have:=B.old k x (A.old k x hx)
   rw[q3,if_neg (fun e=>by rw[e,q2] at this;cases this)];exact this
 · rw[q4]
   by_cases e:k=(AY σ2 d l r).1
   · rw[if_pos e,if_pos e,e,DZ hnone G.sound];rfl
   rw[if_neg e,if_neg e,hh k hk];by_cases e1:k=l
   · rw[if_pos ⟨hk,.inl e1⟩,if_pos e1,if_neg (fun e2=>hlr (fun e0=>hk (e1.trans e0)) (e1.symm.trans e2))];omega
   by_cases e2:k=r
   · rw[if_pos ⟨hk,.inr e2⟩,if_neg e1,if_pos e2];omega
   rw[if_neg (fun h=>h.2.elim e1 e2),if_neg e1,if_neg e2];omega
 rw[hz1] at hy;cases hy;exact hz2
theorem JW (hs:Sound σ []) {h p:Int} {y:Nd×Nat} (h0:h≠0) (hp:σ.get? p=some y) (hy:y.1.left=h∨y.1.right=h) (hh:1≤Store.held σ h) :
 (∀k,sk (Ai σ h).2.2 k=sk σ k)∧(∀k,Store.held (Ai σ h).2.2 k=Store.held σ k-(if k=h then 1 else 0)):=by
 obtain⟨x,hx,hx1⟩:=A8 hh;have hc:has σ h=true∧(nd σ h).held≠0:=⟨Df hx,by rw[Bk hx];omega⟩
 have hde:Ai σ h=((((Bh (bump σ h (-1)) [h] 0).1:Nat):Int),(0:Int),(Bh (bump σ h (-1)) [h] 0).2):=by unfold Ai;rw[if_pos hc]
 have hcm:x.1.held≤1073741824:=by
  obtain⟨j,hj,hj1,_,_⟩:=AD.Ab hx;have q1:=hs.wf.counts x (List.mem_of_getElem? hj1);have q2:=It hs hx;omega
 have hw:wrap64 (x.1.held + -1)=x.1.held-1:=by rw[Iu (by omega) (by omega)];omega
 have hbx:(bump σ h (-1)).get? h=some (BJ x.1 (x.1.held-1),x.2):=by rw[Cz hx,if_pos rfl,hw]
 have hsides:1≤sides σ h:=by
  obtain⟨j,rfl,hj,hj0,hlt⟩:=AD.Ab hp;have:part y h≤sides σ h:=Ge _ j _ (by rw[List.getElem?_map,hj];rfl);unfold part refs at this;rw[if_neg hj0] at this;rcases hy with e|e
  · rw[if_pos e] at this;omega
  rw[if_pos (c:=y.1.right=h) e] at this;omega
 have h2:x.2≠1:=fun e=>by
  have:=hs.counts h x hx;simp only[List.count_nil] at this;omega
 obtain⟨d1,d2⟩:=Ka hbx h2;have hse:(Bh (bump σ h (-1)) [h] 0).2=((bump σ h (-1)).drop Nd.zero h).2.2:=by rw[Dx d1,EY]
 have hg:∀k,k≠h→(Ai σ h).2.2.get? k=σ.get? k:=fun k hk=>by rw[hde,hse,Ht hk,Cz hx,if_neg hk]
 have hm:(Ai σ h).2.2.get? h=some (BJ x.1 (x.1.held-1),x.2-1):=by rw[hde,hse,d2]
 refine⟨fun k=>?_,fun k=>?_⟩
 · by_cases e:k=h
   · subst e
     rw[Bq hm,Bq hx];rfl
   unfold sk;rw[hg k e]
 by_cases e:k=h
 · subst e
   rw[Ba hm,Ba hx,if_pos rfl];rfl
 rw[if_neg e];unfold Store.held nd;rw[hg k e];omega
theorem Bt.same (G:Good σ) (A:Bt σ σ1 k1 a (d+1) tl n1 m1) (B:Bt σ1 σ2 k2 b (d+1) tr n2 m2) {x:Nd} (hx:sk σ old=some x) (hk:x.kind=2) (hd:x.depth=(d:Nat)) (ha:x.left=a) (hb:x.right=b)
 (hp:Pre x.key key d) (htot:Store.total σ+m1+m2<1073741824) :
 Bt σ (Au (if b≠0 then (Ai (if a≠0 then (Ai σ2 a).2.2 else σ2) b).2.2 else (if a≠0 then (Ai σ2 a).2.2 else σ2)) old) key old d (.node tl tr) (n1+n2) (m1+m2+1):=by
 have G2:=B.good;have hh:=A.Li B;have hl:=A.live;have hl2:=B.live;have ht:=A.total;have ht2:=B.total;have hr2:σ2.room=σ.room:=B.room.trans A.room;have rl:Rep (sk σ2) a (d+1) tl:=A.rep.grow B.old;have hx2:=B.old old x (A.old old x hx);obtain⟨σ3,hσ3⟩:∃σ3,σ3=(if a≠0 then (Ai σ2 a).2.2 else σ2):=⟨_,rfl⟩
 rw[←hσ3]
 have s3:Good σ3∧(∀k,sk σ3 k=sk σ2 k)∧(∀k,k≠0→Store.held σ3 k=Store.held σ k+(if k=b then 1 else 0))∧Store.live σ3≤Store.live σ2∧Store.total σ3≤Store.total σ2∧σ3.room=σ2.room:=by
  by_cases e:a=0
  · rw[if_neg (by simpa using e)] at hσ3
    rw[hσ3];exact⟨G2,fun _=>rfl,fun k h0=>by rw[hh k h0,if_neg (fun e2=>h0 (e2.trans e))];omega,Nat.le_refl _,Nat.le_refl _,rfl⟩
  rw[if_pos e] at hσ3;obtain⟨y,hy,rfl⟩:=FG hx2
  have h1:1≤Store.held σ2 a:=by
   have:=Bi G.sound a;rw[hh a e,if_pos rfl];split<;>omega
  obtain⟨g1,g2⟩:=JW G2.sound e hy (.inl ha) h1;obtain⟨_,_,_,_,_,g5,g6,g7⟩:=Cv G2.sound h1;rw[←hσ3] at g1 g2 g5 g6 g7;refine⟨by rw[hσ3];exact G2.drop a,g1,fun k h0=>?_,g5,g6,g7⟩;rw[g2,hh k h0];omega
 obtain⟨G3,v1,v2,v3,v4,v5⟩:=s3;clear hσ3;have hx3:sk σ3 old=some x:=by rw[v1];exact hx2
 obtain⟨σ4,hσ4⟩:∃σ4,σ4=(if b≠0 then (Ai σ3 b).2.2 else σ3):=⟨_,rfl⟩
 rw[←hσ4]
 have s4:Good σ4∧(∀k,sk σ4 k=sk σ2 k)∧(∀k,k≠0→Store.held σ4 k=Store.held σ k)∧Store.live σ4≤Store.live σ2∧Store.total σ4≤Store.total σ2∧σ4.room=σ2.room:=by
  by_cases e:b=0
  · rw[if_neg (by simpa using e)] at hσ4
    rw[hσ4];exact⟨G3,v1,fun k h0=>by rw[v2 k h0,if_neg (fun e2=>h0 (e2.trans e))];omega,v3,v4,v5⟩
  rw[if_pos e] at hσ4;obtain⟨y,hy,rfl⟩:=FG hx3
  have h1:1≤Store.held σ3 b:=by
   have:=Bi G.sound b;rw[v2 b e,if_pos rfl];omega
  obtain⟨g1,g2⟩:=JW G3.sound e hy (.inr hb) h1;obtain⟨_,_,_,_,_,g5,g6,g7⟩:=Cv G3.sound h1;rw[←hσ4] at g1 g2 g5 g6 g7;refine⟨by rw[hσ4];exact G3.drop b,fun k=>(g1 k).trans (v1 k),fun k h0=>?_,by omega,by omega,g7.trans v5⟩;rw[g2,v2 k h0];omega
 obtain⟨G4,u1,u2,u3,u4,u5⟩:=s4;have e4:sk σ4=sk σ2:=funext u1
 have hr:Rep (sk σ4) old d (.node tl tr):=by
  rw[e4];refine .node hx2 hk hd ?_ ?_
  · rw[ha];exact rl
  rw[hb];exact B.rep
 have hK:=Bt.kept (key:=key) G4 hr (fun y hy=>by rw[e4,hx2] at hy;cases hy;exact hp) (by omega);refine⟨hK.good,fun k y hy=>hK.old k y (by rw[u1];exact B.old k y (A.old k y hy)),fun k h0=>by rw[hK.held k h0,u2 k h0],?_,?_,hK.room.trans (u5.trans hr2),hK.there,hK.rep⟩
 · have:=hK.live;omega
 have:=hK.total;omega
theorem IP {L:AQ} {k:List UInt8}:∀ {m:Nat},L.Ok k (256-m)→(tree m L=.nil↔L = []):=by
 intro m hL
 match m,L,hL with
 | m,[],_=>exact⟨fun _=>rfl,fun _=>B9 m⟩
 | m,[p],_=>rw[BZ];exact⟨fun h=>(by cases h),fun h=>(by cases h)⟩
 | 0,p::q::R,hL=>have:=hL.few;simp at this
 | m+1,p::q::R,_=>exact⟨fun h=>(by cases h),fun h=>(by cases h)⟩
theorem D9 {L:AQ} {k:List UInt8}:∀ {m:Nat},L.Ok k (256-m)→((tree m L).isNode=true↔2≤L.length):=by
 intro m hL
 match m,L,hL with
 | m,[],_=>rw[B9];exact⟨fun h=>(by cases h),fun h=>(by simp at h)⟩
 | m,[p],_=>rw[BZ];exact⟨fun h=>(by cases h),fun h=>(by simp at h)⟩
 | 0,p::q::R,hL=>have:=hL.few;simp at this
 | m+1,p::q::R,_=>exact⟨fun _=>(by simp),fun _=>rfl⟩
theorem Eb (d:Nat):∀L:AQ,(sideE 0 d L).length+(sideE 1 d L).length=L.length
 | []=>rfl
 | p::L=>by
  have ih:=Eb d L;unfold sideE at ih ⊢;rcases Aq p.1 d with e|e<;>simp[e]<;>omega
theorem La {L:AQ} {k:List UInt8} {m:Nat} (hm:m+1≤256) (hk:k.length=32) (hL:L.Ok k (255-m)):KN (tree m (sideE 0 (255-m) L)) (tree m (sideE 1 (255-m) L))=tree (m+1) L:=by
 obtain⟨k1,_,a1,a2⟩:=FK k hk (d:=255-m) (by omega) 0 (.inl rfl);obtain⟨k2,_,b1,b2⟩:=FK k hk (d:=255-m) (by omega) 1 (.inr rfl);have h1:=hL.GS a1 a2;have h2:=hL.GS b1 b2;rw[show 255-m+1=256-m by omega] at h1 h2;have hs:=Eb (255-m) L;have n1:=EX.trans (IP h1);have n2:=EX.trans (IP h2);have i1:=D9 h1;have i2:=D9 h2;obtain⟨E0,hE0⟩:∃E,E=sideE 0 (255-m) L:=⟨_,rfl⟩
 obtain⟨E1,hE1⟩:∃E,E=sideE 1 (255-m) L:=⟨_,rfl⟩
 have tw:2≤L.length→tree (m+1) L=.node (tree m E0) (tree m E1):=fun h=>by rw[Bg h,hE0,hE1]
 have s0:∀p∈E0,p∈L:=fun p hp=>by rw[hE0] at hp;exact(List.mem_filter.1 hp).1
 have s1:∀p∈E1,p∈L:=fun p hp=>by rw[hE1] at hp;exact(List.mem_filter.1 hp).1
 rw[←hE0, ←hE1] at hs;rw[←hE0] at n1 i1;rw[←hE1] at n2 i2;rw[←hE0, ←hE1];have len0:∀ {E:AQ},E = []↔E.length=0:=fun {E} => List.length_eq_zero_iff.symm
 have nf:∀ {t:Tr} {c:Prop},(t.isNode=true↔c)→(t.isNode=false↔¬c):=fun {t c} h=>by rw[←h];simp
 unfold KN
 have one:∀ {E:AQ},E.length=1→L.length=1→(∀p∈E,p∈L)→tree m E=tree (m+1) L:=fun {E} h1 h2 hs=>by
  obtain⟨p,rfl⟩:=List.length_eq_one_iff.1 h1;obtain⟨q,rfl⟩:=List.length_eq_one_iff.1 h2;obtain rfl:=List.mem_singleton.1 (hs p (List.mem_singleton.2 rfl));rw[BZ,BZ]
 by_cases c1:(tree m E0).isNil=true∧(tree m E1).isNode=false
 · rw[if_pos c1]
   have e0:=len0.1 (n1.1 c1.1);have e1:=(nf i2).1 c1.2;by_cases e2:E1.length=0
   · rw[len0.2 e2,B9,len0.2 (show L.length=0 by omega),B9]
   exact one (by omega) (by omega) s1
 rw[if_neg c1];by_cases c2:(tree m E1).isNil=true∧(tree m E0).isNode=false
 · rw[if_pos c2]
   have e0:=len0.1 (n2.1 c2.1);have e1:=(nf i1).1 c2.2;by_cases e2:E0.length=0
   · exact absurd ⟨n1.2 (len0.2 e2),(nf i2).2 (by omega)⟩ c1
   exact one (by omega) (by omega) s0
 rw[if_neg c2];refine(tw ?_).symm
 have e1:E0.length=0→2≤E1.length:=fun e=>by
  by_cases h:2≤E1.length
  · exact h
  exact absurd ⟨n1.2 (len0.2 e),(nf i2).2 h⟩ c1
 have e2:E1.length=0→2≤E0.length:=fun e=>by
  by_cases h:2≤E0.length
  · exact h
  exact absurd ⟨n2.2 (len0.2 e),(nf i1).2 h⟩ c2
 omega
end
end Go.Proofs.YtooijgcildbnlaaGreat.Store
namespace Go.Proofs.YtooijgcildbnlaaGreat.BE
open Go.RowKit Go.Proofs.YtooijgcildbnlaaGreat.ShaW Go.Proofs.YtooijgcildbnlaaGreat.Path Go.Proofs.YtooijgcildbnlaaGreat.Store
structure Wm where
 key:List UInt8
 gone:Bool
 vv:Value
 val:List UInt8
instance:Inhabited Wm:=⟨⟨[],false,.slice none 0 0,[]⟩⟩
def Wm.cells (x:Wm):Array Value:=(x.key.map bv ++ [.bool x.gone,x.vv]).toArray
def Wm.ent (x:Wm):List UInt8×List UInt8:=(x.key,x.val)
def Wm.wp (x:Wm):List UInt8×Option (List UInt8):=(x.key,if x.gone then none else some x.val)
structure Wm.Good (w:World) (x:Wm):Prop where
 key:x.key.length=32
 val:Bytes w x.vv x.val
 blk:x.val ≠ []→∀k,x.vv.ownBlock=some k→k<w.heap.size
theorem Wm.Good.An {F:Nat→Prop} {w w':World} {x:Wm} (h:x.Good w) (hc:Ch F w w') (hF:∀k,F k→w.heap.size≤k):x.Good w' :=
 ⟨h.key,h.val.Jh hc (fun h0 k hk hf=>by have:=h.blk h0 k hk;have:=hF k hf;omega),fun h0 k hk=>Nat.lt_of_lt_of_le (h.blk h0 k hk) hc.size⟩
section
variable {x : Wm} (h : x.key.length=32)
include h
theorem Wm.size:x.cells.size=34:=by simp[Wm.cells,h]
omit h in
theorem Wm.list:x.cells.toList=x.key.map bv ++ [.bool x.gone,x.vv]:=rfl
theorem Wm.BW:x.cells.extract 0 (0+32)=AM x.key:=by
 apply Array.ext';simp only[Array.toList_extract,List.extract,Wm.list,AM,List.drop_zero];rw[List.take_append_of_le_length (by simp[h]),List.take_of_length_le (by simp[h])]
theorem Wm.Jr:x.cells[32]?=some (.bool x.gone):=by
 rw[←Array.getElem?_toList,Wm.list,List.getElem?_append_right (by simp[h])];simp[h]
theorem Wm.Hu:x.cells[33]?=some x.vv:=by
 rw[←Array.getElem?_toList,Wm.list,List.getElem?_append_right (by simp[h])];simp[h]
theorem NJ {cur:Array Value} {o:Nat} (c3:cur.extract o (o+34)=x.cells):cur.extract o (o+32)=AM x.key∧cur[o+32]?=some (.bool x.gone)∧cur[o+33]?=some x.vv:=by
 have hs:=Wm.size h;have h':cur.extract o (o+x.cells.size)=x.cells:=by rw[hs];exact c3
 exact⟨Ra h' (by rw[hs];omega) (Wm.BW h),Nk h' (Wm.Jr h),Nk h' (Wm.Hu h)⟩
end
theorem Wm.one {w:World} {x:Wm} (h:x.Good w):∀v∈x.cells.toList,v.oneCell'=true:=fun v hv=>by
 rw[Wm.list,List.mem_append,List.mem_map] at hv;rcases hv with⟨b,_,rfl⟩|hv
 · rfl
 obtain⟨ao,cap,e,_⟩:=h.val.form;simp at hv;rcases hv with rfl|rfl
 · rfl
 rw[e];rfl
structure CY (w:World) (ao:Option Addr) (l:List Wm):Prop where
 good:∀x∈l,x.Good w
 row:Dl 34 Wm.cells w ao l
section
variable {w w' : World} {ao : Option Addr} {l : List Wm}
theorem CY.An {F:Nat→Prop} (h:CY w ao l) (hc:Ch F w w') (hF:∀k,F k→w.heap.size≤k):CY w' ao l:=⟨fun x hx=>(h.good x hx).An hc hF,h.row.An hc hF⟩
theorem CY.adds (h:CY w ao l) (a:Adds w w'):CY w' ao l:=h.An a (fun _=>fEq)
theorem CY.take (h:CY w ao l) (n:Nat):CY w ao (l.take n):=⟨fun x hx=>h.good x (List.mem_of_mem_take hx),h.row.take n⟩
theorem CY.drop (h:CY w ao l) (n cap:Nat) (hc:l.length≤cap):CY w (M8 34 ao cap n) (l.drop n):=⟨fun x hx=>h.good x (List.mem_of_mem_drop hx),h.row.drop n cap hc⟩
theorem CY.nil (w:World) (ao:Option Addr):CY w ao []:=⟨fun x hx=>(by cases hx),fun i x hi=>(by simp at hi)⟩
end
theorem Vq:(Tryz.prog.info? (Tryz.prog.elem 199)).map (·.size)=some 34:=by kernel_rfl
theorem ES:(Tryz.prog.info? 203).map (·.size)=some 34:=by kernel_rfl
theorem Jo:Tryz.prog.underlying 199=some (.slice (Tryz.prog.elem 199)):=by kernel_rfl
theorem Nt (w:World):(sizeOf (Tryz.prog.elem 199)).run Tryz.prog w=.ok 34 w:=by
 have hs:=Vq;cases hq:Tryz.prog.info? (Tryz.prog.elem 199) with
 | none=>rw[hq] at hs;cases hs
 | some inf =>
  rw[hq] at hs;have hs':inf.size=34:=by simpa using hs
  simp[sizeOf,typeInfo,hq,hs']
theorem ON (w:World) (ao:Option Addr) (len cap i:Nat) (hi:i≤len) :
 (Instr.sliceAt 199 (.slice ao len cap) (some (.int .i64 (i:Int))) none none).run Tryz.prog w=.ok (.slice (M8 34 ao cap i) (len-i) (cap-i)) w:=by
 rw[run_sliceAt_slice w _ _ _ _ _ Jo,run_slice_l w _ ao len cap Jo .i64 (i:Int) (by omega) (by omega)];simp only[Nt w,Result.andThen_ok,sliced,Int.toNat_natCast];rfl
theorem OR (w:World) (ao:Option Addr) (len cap i:Nat) (hi:i≤cap) :
 (Instr.sliceAt 199 (.slice ao len cap) none (some (.int .i64 (i:Int))) none).run Tryz.prog w=.ok (.slice ao i cap) w:=by
 rw[run_sliceAt_slice w _ _ _ _ _ Jo,run_slice_h w _ ao len cap Jo .i64 (i:Int) (by omega) (by omega)]
 have e:(Value.slice (if cap=0 then ao else ao.map (·.add (0*34))) (i-0) (cap-0))=.slice ao i cap:=by
  rw[Nat.zero_mul,Nat.sub_zero,Nat.sub_zero]
  congr 1
  split
  · rfl
  cases ao<;>rfl
 simp only[Nt w,Result.andThen_ok,sliced,Int.toNat_natCast,e]
end Go.Proofs.YtooijgcildbnlaaGreat.BE

/- Laws of the layers below. -/
import Derived.Test.YtooijgcildbnlaaGreatQi38
import Derived.Deep.DeepAppendWide
set_option maxHeartbeats 3200000
set_option maxRecDepth 100000
set_option linter.unusedVariables false
namespace Go.Proofs.YtooijgcildbnlaaGreat.Law15
open Go.RowKit Go.Sort Go.Proofs.YtooijgcildbnlaaGreat.ShaW Go.Proofs.YtooijgcildbnlaaGreat.Path Go.Proofs.YtooijgcildbnlaaGreat.Store Go.Proofs.YtooijgcildbnlaaGreat.BC Go.Proofs.YtooijgcildbnlaaGreat.Law14
section
variable {w0 w w' : World} {d v s room tn : Nat} {G : Nat→Prop} {σ σ' : AA Nd} {root r : Int} {L L' : AN} {M M' : Nmd} {R : List (Int×AN)} {key bs : List UInt8}
def EM (σ:AA Nd):Int:=if Cj σ 1=true then 0 else 9
theorem UQ (h:Ow w0 w s σ G) (D:Roots σ ((root,L)::R)) (hk:key.length=32) (htot:Store.total σ+1000<1073741824) :
 Calls Tryz.prog 110 #[.pointer (some ⟨s,0,none⟩),.int .i64 root,.agg (AJ key)] w fun e w'=>∃r σ' gone,e=.returned (.tuple #[.int .i64 r,.bool gone,.int .i64 (EM σ)])∧Ow w0 w' s σ' G∧But G w w' ∧
  ((EM σ≠0∧gone=false∧σ'=σ)∨(EM σ=0∧gone=decide (key∈keysOf L)∧WroteR σ σ' root r 256 1000∧Roots σ' ((r,Bl L key)::R))):=by
 obtain⟨F,hAt⟩:=h.at;have hh:=(D.db (p:=(root,L)) (List.mem_cons_self ..)).hand;cases hf:Cj σ 1 with
 | true =>
  have e:EM σ=0:=by unfold EM;rw[hf];rfl
  rw[e]
  have hr:Store.live σ+258≤σ.room:=by
   rw[Hk,D.good.used] at hf;exact of_decide_eq_true hf
  exact(PK h D hk hr htot).mono fun e w' ⟨r,σ',gone,he,ho,hb,hw,hr,hg,_⟩=>⟨r,σ',gone,he,ho,hb,.inr ⟨rfl,by
   by_cases hm:key∈keysOf L
   · rw[decide_eq_true hm];exact hg.2 hm
   rw[decide_eq_false hm];cases h:gone with
   | false=>rfl
   | true=>exact absurd (hg.1 h) hm,hw,hr⟩⟩
 | false =>
  have e:EM σ=9:=by unfold EM;rw[hf];rfl
  rw[e];exact(RG hAt root (AJ key) hh hf).mono fun e w' ⟨he,ha⟩=>⟨0,σ,false,he,h.adds ha,Adds.but ha,.inl ⟨by decide,rfl,rfl⟩⟩
def EN (σ:AA Nd) (key:List UInt8):Int:=if key.length=32 then EM σ else 3
noncomputable def Qb (σ:AA Nd) (L:AN) (key:List UInt8):AN:=if EN σ key=0 then Bl L key else L
def K8 (σ:AA Nd) (L:AN) (key:List UInt8):Bool:=decide (EN σ key=0∧key∈keysOf L)
theorem Pu (h:Dct w0 w d v s G room σ root L M tn) {kv:Value} (hk:Bytes w kv key) (htn:tn≤500000000) :
 Calls Tryz.prog 40 #[.pointer (some ⟨d,0,none⟩),kv] w fun e w'=>e=.returned (.tuple #[.bool (K8 σ L key),.int .i64 (EN σ key)]) ∧
  ∃σ' r,DStep w0 w w' d v s G room σ σ' r (Qb σ L key) M tn 258:=by
 have hn:=Kk h hk;obtain⟨K,hK⟩:∃K,K=AJ (C6 key):=⟨_,rfl⟩
 have hks:K.size=32:=by rw[hK,AM,DU]
 have hk1:∀v∈K.toList,v.oneCell'=true:=by rw[hK];exact Ak _
 rw[←hK] at hn;obtain⟨Z,hZ⟩:∃Z,Z=AJ (List.replicate 32 0):=⟨_,rfl⟩
 have hzd:=E5;have hZs:Z.size=32:=by rw[hZ];rfl
 rw[←hZ] at hzd;have HZ:=(hIq hzd (aIq hZs (aIq hks hk1)))
 have HK:=Lib.hid hK;have HN:=Lib.hid hn;have HH:=(hIq h htn)
 clear hzd hZs hZ hn hks hk1 hK hk htn;by_cases h32:key.length=32
 · have e3:DT key=0:=by unfold DT;rw[if_pos h32]
   rw[e3] at HN;have e4:C6 key=key:=by unfold C6;rw[if_pos h32]
   have HE:=(hIq h32 e4)
   clear e3 e4 h32 h;go_enter Tryz.func40,Tryz.ntmps40;go_wp2_with fail;refine HN.out.mono ?_;rintro e w1 ⟨rfl,a1⟩;have A1:=Lib.hid a1;clear a1
   go_upto_region 4 with(first
    | fail
    | ((with_reducible show zOq (.alloc 24));refine AG rfl 24 rfl (.agg Z) HZ.out.1 ?_;dsimp only[Value.cells];try simp only[World.size_alloc])
    | ((with_reducible show zOq (.store 24 _ _));refine AB rfl 24 _ _ rfl w1.heap.size 0 K rfl rfl (heap_alloc_new _ _) (by rw[AT,HZ.out.2.2.1]) (by rw[HZ.out.2.1,HZ.out.2.2.1];exact Nat.le_of_eq (Nat.zero_add _)) HZ.out.2.2.2 K (by rw[AI _ _ (by rw[Array.length_toList,Array.length_toList,HZ.out.2.1,HZ.out.2.2.1])]) ?_))
   refine Cc (fun w2 hw2=>?_);have a2:Adds w w2:=by rw[hw2];exact(A1.out.alloc _).setRow (.inr A1.out.size) _
   have r2:w2.heap[w1.heap.size]?=some (.cells K 24 (0,0)):=by rw[hw2];exact AD (heap_alloc_new w1 (.cells Z 24)) K
   have d2:=(HH.out.1.adds a2).cell;obtain⟨m,ho,hst⟩:=HH.out.1.vs.step;have ho2:=ho.more (w':=w2.drew) (a2.drew) (G':=fun k=>Fl v m (fun k=>k=d∨G k) k∨k=w1.heap.size) (fun k hk=>hk.imp id (fun e=>by rw[e];exact⟨A1.out.size,Al r2⟩));have hput:=UQ (key:=C6 key) ho2 HH.out.1.rts (DU key) (by have:=HH.out.1.total;have:=HH.out.2;omega);rw[←HK.out] at hput;obtain⟨pe,hpe⟩:∃pe,pe=EM σ:=⟨_,rfl⟩
   rw[←hpe] at hput;have HPE:=Lib.hid hpe;have H2:=(hIq a2 (aIq r2 d2))
   have HP:=(hIq hput (@hst))
   clear a2 r2 d2 ho hst ho2 hput hw2 hpe;go_wp2;refine AO (fun w0=>w0.heap[d]?=some (.cells (OE v s root) 97 (0,0))∧w0.heap[w1.heap.size]?=some (.cells K 24 (0,0))) 17 [(0,false),(1,false),(2,false),(3,false),(4,false),(5,false),(6,false),(7,false),(8,false),(9,true),(10,false),(11,false),(12,false),(13,false),(14,false),(15,false),(16,false)] (by kernel_rfl) (by kernel_rfl) ?_ ?_
   · exact⟨AQ H2.out.2.2,AQ H2.out.2.1⟩
   iterate 3
    iterate 1 refine plan_look rfl rfl (fun w0 hS=>(by go_simp;try rfl)) ?_
    simp only[Act.put,nAq,nBq,nCq]
   refine plan_look (v:=.pointer (some ⟨s,0,none⟩)) rfl rfl (fun w0 hS=>(by have e0:w0.cell? ⟨d,1,none⟩=some (.pointer (some ⟨s,0,none⟩)):=AF hS.1 rfl;clear hS;go_simp;try rfl)) ?_;simp only[Act.put,nAq,nBq,nCq]
   iterate 3
    iterate 1 refine plan_look rfl rfl (fun w0 hS=>(by go_simp;try rfl)) ?_
    simp only[Act.put,nAq,nBq,nCq]
   refine plan_look (v:=.int .i64 root) rfl rfl (fun w0 hS=>(by have e0:w0.cell? ⟨d,2,none⟩=some (.int .i64 root):=AF hS.1 rfl;clear hS;go_simp;try rfl)) ?_;simp only[Act.put,nAq,nBq,nCq];refine Ai (cur:=K) (t:=24) (fr:=(0,0)) rfl rfl 24 _ rfl w1.heap.size 0 32 rfl (fun w0 hS=>hS.2) Tryz.underlying24 rfl AT (by rw[HZ.out.2.2.1];exact Nat.le_of_eq (Nat.zero_add _)) K (by have:=HZ.out.2.2.1;simp[←this]) ?_;simp only[Act.put,nAq,nBq,nCq];refine AY rfl ?_;go_wp2_with fail;refine HP.out.1.mono ?_;rintro e w3 ⟨r,σ',gone,rfl,o3,b3,hc3⟩;have hb3:=(Adds.but (G:=Fl v m (fun k=>k=d∨G k)) H2.out.1.drew).then (b3.less (fun _ h=>.inl h));obtain⟨v3,c3⟩:=HP.out.2 (o3.less (fun _ h=>.inl h)) hb3;have r3:=c3.row HH.out.1.cell (.inl rfl);have k3:=b3.row (AQ H2.out.2.1) (.inr rfl);have H3:=(hIq v3 (aIq c3 (aIq hc3 (aIq r3 k3))))
   clear o3 b3 hc3 hb3 v3 c3 r3 k3;dsimp only;go_step;refine wpList_nil ?_;change _∧_;refine⟨⟨H3.out.2.2.2.1,H3.out.2.2.2.2⟩,?_⟩
   iterate 7
    refine plan_look rfl rfl (fun w0 hS=>(by clear hS;go_simp;try rfl)) ?_;simp only[Act.put,nAq,nBq,nCq]
   refine Ae ?_;simp only[List.drop_succ_cons,List.drop_zero];go_wp2;refine NoPanic.normal ?_;by_cases h0:pe=0
   · have f3:=Ag H3.out.2.2.2.1 2
     have l3:=Al H3.out.2.2.2.1;have c3:w3.cell? ⟨d,2,none⟩=some (.int .i64 root):=AF H3.out.2.2.2.1 rfl;have HP0:=(hIq HPE.out h0)
     subst h0;clear HPE;go_wp2;go_ret2;obtain⟨_,hgn,hw,hr⟩:=H3.out.2.2.1.resolve_left (fun h=>h.1 rfl);rw[HE.out.2] at hgn;rw[HE.out.2] at hr;have hdw:=Dct.write (tn:=tn+60000) H3.out.2.2.2.1 H3.out.1 hr (hw.room.trans HH.out.1.room) (by have:=hw.total;have:=HH.out.1.total;omega) HH.out.1.base;have he:EN σ key=0:=by unfold EN;rw[if_pos HE.out.1];exact HP0.out.1.symm
     have hbb:K8 σ L key=gone:=by unfold K8;rw[he,hgn];exact decide_eq_decide.2 ⟨fun h=>h.2,fun h=>⟨rfl,h⟩⟩
     refine⟨by rw[he,hbb];rfl,σ',r,?_⟩;unfold Qb;rw[if_pos he];exact⟨hdw.1,(H3.out.2.1.less (fun _ h=>.inr h)).then hdw.2,by have:=hw.live;omega⟩
   have HP0:=(hIq HPE.out h0)
   clear HPE;go_wp2;go_ret2;obtain⟨_,hgn,rfl⟩:=H3.out.2.2.1.resolve_right (fun h=>HP0.out.2 h.1);have he:EN σ' key=pe:=by unfold EN;rw[if_pos HE.out.1];exact HP0.out.1.symm
   have hbb:K8 σ' L key=gone:=by unfold K8;rw[hgn];exact decide_eq_false (fun h=>HP0.out.2 (he.symm.trans h.1))
   refine⟨by rw[he,hbb];rfl,σ',root,?_⟩;unfold Qb;rw[if_neg (by rw[he];exact HP0.out.2)];exact⟨(⟨H3.out.2.2.2.1,H3.out.1,HH.out.1.rts,HH.out.1.room,HH.out.1.total,HH.out.1.base⟩:Dct w0 w3 d v s G room σ' root L M tn).JD (Nat.le_add_right _ _),H3.out.2.1.less (fun _ h=>.inr h),Nat.le_add_right _ _⟩
 have e3:DT key=3:=by unfold DT;rw[if_neg h32]
 rw[e3] at HN;have HE:=Lib.hid h32;clear e3 h32 h;go_enter Tryz.func40,Tryz.ntmps40;go_wp2_with fail;refine HN.out.mono ?_;rintro e w1 ⟨rfl,a1⟩;have A1:=Lib.hid a1;clear a1
 go_wp2_with (first
  | fail
  | ((with_reducible show zOq (.alloc 24));refine AG rfl 24 rfl (.agg Z) HZ.out.1 ?_;dsimp only[Value.cells];try simp only[World.size_alloc])
  | ((with_reducible show zOq (.store 24 _ _));refine AB rfl 24 _ _ rfl w1.heap.size 0 K rfl rfl (heap_alloc_new _ _) (by rw[AT,HZ.out.2.2.1]) (by rw[HZ.out.2.1,HZ.out.2.2.1];exact Nat.le_of_eq (Nat.zero_add _)) HZ.out.2.2.2 K (by rw[AI _ _ (by rw[Array.length_toList,Array.length_toList,HZ.out.2.1,HZ.out.2.2.1])]) ?_))
 go_ret2;have he:EN σ key=3:=by unfold EN;rw[if_neg HE.out]
 have hbb:K8 σ L key=false:=by unfold K8;rw[he];rfl
 refine⟨by rw[he,hbb];rfl,σ,root,?_⟩;unfold Qb;rw[if_neg (by rw[he];decide)];exact HH.out.1.stay ((A1.out.alloc _).setRow (.inr A1.out.size) _) _
end
end Go.Proofs.YtooijgcildbnlaaGreat.Law15
namespace Go.Proofs.YtooijgcildbnlaaGreat
open Go.RowKit
section
variable {P : Program}
theorem JQ (w:World) (t ty e:TypeId) (i:TypeInfo) (z:Value) (size bytes:Nat) (ht:P.underlying t=some (.slice e)) (hi:P.info? e=some i) (hz:i.zero=some z) (hsize:i.size=size) (hby:i.bytes=bytes) (hzs:z.cells.size=size) (hsz:0<size)
 (v:Value) (n:Nat) (xs:List Value) (hown:w.ownsRow 0 e size v n xs) (ad:Addr) (m c:Nat) (news:List Value) (hl:news.length=m*size) (hnews:∀j u,news[j]?=some u→w.cell? (ad.add j)=some u) (h1:∀u∈news,u.oneCell'=true)
 (h63:n+m≤maxLen) (hbytes:((n+m)+(n+m) / 4+192)*bytes≤281474976710656) :
 ∃v' w',(Builtin.append_ #[t,t] ty #[v,.slice (some ad) m c]).run P w=.ok v' w'∧w'.ownsRow 0 e size v' (n+m) (xs++news)∧w.grownBy w' v.ownBlock∧(v'.ownBlock=v.ownBlock∨∀k,v'.ownBlock=some k→w.heap.size≤k):=by
 have weaken:∀ {w':World} {v':Value} {k:Nat} {ys:List Value},w'.ownsRow w.heap.size e size v' k ys→w'.ownsRow 0 e size v' k ys∧∀b,v'.ownBlock=some b→w.heap.size≤b:=fun h=>by
  refine⟨⟨h.1,?_⟩,fun b hb=>(h.lt b hb).1⟩;rcases h.2 with h' | ⟨g,cap,cur,r1,_,r2⟩
  · exact .inl h'
  exact .inr ⟨g,cap,cur,r1,Nat.zero_le _,r2⟩
 rcases hown.2 with⟨rfl,rfl⟩|⟨g,cap,cur,rfl,_,hg,hn,hcap,hcur,htake⟩
 · obtain⟨v',w',hrun,r1,r2,_⟩:=run_append_own_wide (P:=P) w w.heap.size t ty e i z size bytes ht hi hz hsize hby hzs hsz (.slice none 0 0) 0 xs (by rw[show xs = [] from List.eq_nil_of_length_eq_zero (by simpa using hown.1)];exact World.ownsRow_nil ..) ad m c news hl hnews h1 h63 hbytes (Nat.le_refl _)
   exact⟨v',w',hrun,(weaken r1).1,r2,.inr (weaken r1).2⟩
 by_cases hroom:n+m≤cap
 · obtain⟨v',w',hrun,r1,r2,_⟩:=run_append_own_wide (P:=P) w 0 t ty e i z size bytes ht hi hz hsize hby hzs hsz (.slice (some ⟨g,0,none⟩) n cap) n xs hown ad m c news hl hnews h1 h63 hbytes (Nat.zero_le _)
   have hfit:n*i.size+news.length≤cur.size:=by
    rw[hl,hcur,hsize, ←Nat.add_mul];exact Nat.mul_le_mul_right _ hroom
   have hrun2:=run_append_room (P:=P) w t ty e i ht hi g n cap cur hg ad m c news (by rw[hsize];exact hl) hnews h1 hroom hfit;rw[hrun] at hrun2;injection hrun2 with e1 e2;exact⟨v',w',hrun,r1,r2,.inl (by rw[e1];rfl)⟩
 subst hsize;subst hby;have holds:∀j u,xs[j]?=some u→w.cell? ((⟨g,0,none⟩:Addr).add j)=some u:=hown.cells (g:=g) rfl;have hlen:(xs++news).length=(n+m)*i.size:=by rw[List.length_append,hown.1,hl,Nat.add_mul]
 have hsmall:n+m≤9223372036854775807:=by simp only[maxLen] at h63;omega
 have hr:=run_append_grow (P:=P) w t ty e i z ht hi hz ⟨g,0,none⟩ n cap xs hown.1 holds ad m c news hl hnews (by omega) (by omega) (growslice_fits_wide (by omega) hbytes);refine⟨_,_,hr,⟨hlen,.inr ⟨w.heap.size,_,_,rfl,Nat.zero_le _,heap_alloc_new w.drew _,grownCap_ge w (n+m) cap e,grownCap_le_maxLen w (n+m) cap e h63,?_,?_⟩⟩,⟨rfl,rfl,rfl,by simp,fun k hk _=>(by first|exact heap_alloc_old w.drew _ k hk|exact heap_alloc_old w.drew _ hk)⟩,.inr (fun k hk=>by cases hk;exact Nat.le_refl _)⟩
 · have hge:=grownCap_ge w (n+m) cap e
   simp only[Array.size_append,List.size_toArray,size_zeroCells,hzs,hown.1,hl, ←Nat.add_mul]
   congr 1
   omega
 simp only[Array.toList_append,List.append_assoc];rw[←List.append_assoc, ←hlen];exact List.take_left
theorem Hs {w:World} {ops:Array Oper} {rest:List Oper} {o:Oper} {a:Act} {Q:Exit→Act→World→Prop} (hgd:o.guard=none) (s x:Operand) (t:TypeId)
 (ho:o.op=.call { callee:=.builtin .append,args:=#[s,x],argTypes:=#[t,t] }) (e:TypeId) (i:TypeInfo) (z:Value) (size bytes:Nat) (ht:P.underlying t=some (.slice e)) (hi:P.info? e=some i) (hz:i.zero=some z)
 (hsize:i.size=size) (hby:i.bytes=bytes) (hzs:z.cells.size=size) (hsz:0<size) (v:Value) (n:Nat) (xs:List Value) (hs:a.eval s=v) (hown:w.ownsRow 0 e size v n xs)
 (ad:Addr) (m c:Nat) (news:List Value) (hx:a.eval x=.slice (some ad) m c) (hl:news.length=m*size) (hnews:∀j u,news[j]?=some u→w.cell? (ad.add j)=some u) (h1:∀u∈news,u.oneCell'=true)
 (h63:n+m≤maxLen) (hbytes:((n+m)+(n+m) / 4+192)*bytes≤281474976710656)
 (h:∀v' w',w'.ownsRow 0 e size v' (n+m) (xs++news)→w.grownBy w' v.ownBlock→(v'.ownBlock=v.ownBlock∨∀k,v'.ownBlock=some k→w.heap.size≤k)→wpList P ops Q rest (a.put o.dst v') w'):wpList P ops Q (o::rest) a w :=
 wpList_plain hgd fun _ hK=>by
  obtain⟨v',w',hrun,r1,r2,r3⟩:=JQ w t o.type e i z size bytes ht hi hz hsize hby hzs hsz v n xs hown ad m c news hl hnews h1 h63 hbytes;unfold Oper.wp;simp[execOp,ho,resolve,invoke,builtin,hs,hx,hrun,Result.andThen];exact hK _ _ (h v' w' r1 r2 r3)
end
end Go.Proofs.YtooijgcildbnlaaGreat
namespace Go.Proofs.YtooijgcildbnlaaGreat.Law15
open Go.RowKit Go.Proofs.YtooijgcildbnlaaGreat.ShaW Go.Proofs.YtooijgcildbnlaaGreat.Path Go.Proofs.YtooijgcildbnlaaGreat.Store Go.Proofs.YtooijgcildbnlaaGreat.BC Go.Deep Go.ChangeShapes Go.WideShapes Go.ChangeAt
structure Br where
 kv:Value
 kb:List UInt8
 gone:Bool
 vv:Value
 vb:List UInt8
instance:Inhabited Br:=⟨⟨.slice none 0 0,[],false,.slice none 0 0,[]⟩⟩
def Br.cells (x:Br):Array Value:=#[x.kv,.bool x.gone,x.vv]
structure Br.Good (w:World) (x:Br):Prop where
 key:Bytes w x.kv x.kb
 kblk:x.kb ≠ []→∀k,x.kv.ownBlock=some k→k<w.heap.size
 val:Bytes w x.vv x.vb
 vblk:x.vb ≠ []→∀k,x.vv.ownBlock=some k→k<w.heap.size
theorem Br.Good.AZ {F:Nat→Prop} {w w':World} {x:Br} (h:x.Good w) (hc:Ch F w w') (hF:∀k,F k→w.heap.size≤k):x.Good w' :=
 ⟨h.key.Ji hc (fun h0 k hk hf=>by have:=h.kblk h0 k hk;have:=hF k hf;omega),fun h0 k hk=>Nat.lt_of_lt_of_le (h.kblk h0 k hk) hc.size,
  h.val.Ji hc (fun h0 k hk hf=>by have:=h.vblk h0 k hk;have:=hF k hf;omega),fun h0 k hk=>Nat.lt_of_lt_of_le (h.vblk h0 k hk) hc.size⟩
structure JF (w:World) (ao:Option Addr) (l:List Br):Prop where
 good:∀x∈l,x.Good w
 row:D9 3 Br.cells w ao l
theorem JF.AZ {F:Nat→Prop} {w w':World} {ao:Option Addr} {l:List Br} (h:JF w ao l) (hc:Ch F w w') (hF:∀k,F k→w.heap.size≤k):JF w' ao l:=⟨fun x hx=>(h.good x hx).AZ hc hF,h.row.AZ hc hF⟩
structure Ce where
 kind:Int
 nm:List UInt8
 kv:Value
 kb:List UInt8
 vv:Value
 vb:List UInt8
 ao:Option Addr
 l:List Br
 cap:Nat
 most:Int
instance:Inhabited Ce:=⟨⟨0,[],.slice none 0 0,[],.slice none 0 0,[],none,[],0,0⟩⟩
def Ce.cells (x:Ce):Array Value:=#[.int .u8 x.kind,.string (BP x.nm),x.kv,x.vv,.slice x.ao x.l.length x.cap,.int .i64 x.most]
structure Ce.Good (w:World) (x:Ce):Prop where
 kind:0≤x.kind∧x.kind≤255
 nm:x.nm.length≤maxLen
 key:Bytes w x.kv x.kb
 kblk:x.kb ≠ []→∀k,x.kv.ownBlock=some k→k<w.heap.size
 val:Bytes w x.vv x.vb
 vblk:x.vb ≠ []→∀k,x.vv.ownBlock=some k→k<w.heap.size
 raws:JF w x.ao x.l
 len:x.l.length≤x.cap∧x.cap≤maxLen
 most:(Lit.int .i64 x.most).wf=true
theorem Ce.Good.AZ {F:Nat→Prop} {w w':World} {x:Ce} (h:x.Good w) (hc:Ch F w w') (hF:∀k,F k→w.heap.size≤k):x.Good w' :=
 ⟨h.kind,h.nm,h.key.Ji hc (fun h0 k hk hf=>by have:=h.kblk h0 k hk;have:=hF k hf;omega),fun h0 k hk=>Nat.lt_of_lt_of_le (h.kblk h0 k hk) hc.size,
  h.val.Ji hc (fun h0 k hk hf=>by have:=h.vblk h0 k hk;have:=hF k hf;omega),fun h0 k hk=>Nat.lt_of_lt_of_le (h.vblk h0 k hk) hc.size,h.raws.AZ hc hF,h.len,h.most⟩
structure G8 (w:World) (ao:Option Addr) (l:List Ce):Prop where
 good:∀x∈l,x.Good w
 row:D9 6 Ce.cells w ao l
theorem G8.AZ {F:Nat→Prop} {w w':World} {ao:Option Addr} {l:List Ce} (h:G8 w ao l) (hc:Ch F w w') (hF:∀k,F k→w.heap.size≤k):G8 w' ao l:=⟨fun x hx=>(h.good x hx).AZ hc hF,h.row.AZ hc hF⟩
section
variable {H : Type} {enc : TypeId×Value→H} {W : World} {base : Nat}
theorem JH:Tryz.prog.cellsOf 201=3:=by kernel_rfl
theorem OX:Tryz.prog.cellsOf 4=1:=by kernel_rfl
theorem Qw:Tryz.prog.cellsOf 5=1:=by kernel_rfl
theorem Kr:Tryz.prog.cellsOf 78=1:=by kernel_rfl
theorem Ll:Tryz.prog.cellsOf 9=1:=by kernel_rfl
theorem G7:Tryz.prog.cellsOf 80=6:=by kernel_rfl
theorem Dx (cs:List Value) (i j:Nat):cs.drop i=(cs.drop i).take j++cs.drop (i+j):=by
 conv=>lhs;rw[←List.take_append_drop j (cs.drop i)]
 rw[List.drop_drop]
theorem N7 {n:Nat} {cs:List Value} {y:DataW H×List MemPlace} (h:DataW.trod enc Tryz.prog W base (fun _=>true) true n 201 cs=some y):∃x:Br,x.Good W∧cs=x.cells.toList:=by
 obtain⟨xs,m,rfl,hx,hl,hxl,hf⟩:=DataW.trod_struct Tryz.underlying201 h;rw[JH] at hl;have hx3:xs.length=3:=hxl;have g:=fun i (hi:i<3)=>(List.getElem?_eq_getElem (l:=xs) (i:=i) (by omega))
 have f0:=hf 0 ⟨ "Key",73,0,false, "", "",0⟩ rfl;have f1:=hf 1 ⟨ "Gone",4,1,false, "", "",24⟩ rfl;have f2:=hf 2 ⟨ "Value",73,2,false, "", "",32⟩ rfl;rw[g 0 (by omega)] at f0;rw[g 1 (by omega)] at f1;rw[g 2 (by omega)] at f2;simp only[Jy,OX] at f0 f1 f2;obtain⟨kv,kb,e0,h1,h2⟩:=GA f0;obtain⟨b,e1,_⟩:=DataW.trod_bool Tryz.underlying4 f1;obtain⟨vv,vb,e2,h3,h4⟩:=GA f2;refine⟨⟨kv,kb,b,vv,vb⟩,⟨h1,h2,h3,h4⟩,?_⟩;have a:cs.drop 2=(cs.drop 2).take 1:=(List.take_of_length_le (by simp[hl])).symm
 have:cs=(cs.drop 0).take 1++((cs.drop 1).take 1++(cs.drop 2).take 1):=by
  rw[←a, ←Dx cs 1 1];exact Dx cs 0 1
 rw[this,e0,e1,e2];rfl
theorem PF {n:Nat} {cs:List Value} {y:DataW H×List MemPlace} (h:DataW.trod enc Tryz.prog W base (fun _=>true) true n 80 cs=some y):∃x:Ce,x.Good W∧cs=x.cells.toList:=by
 obtain⟨xs,m,rfl,hx,hl,hxl,hf⟩:=DataW.trod_struct Tryz.underlying80 h;rw[G7] at hl;have hx6:xs.length=6:=hxl;have g:=fun i (hi:i<6)=>(List.getElem?_eq_getElem (l:=xs) (i:=i) (by omega))
 have f0:=hf 0 ⟨ "Kind",5,0,false, "", "",0⟩ rfl;have f1:=hf 1 ⟨ "Name",9,1,false, "", "",8⟩ rfl;have f2:=hf 2 ⟨ "Key",73,2,false, "", "",24⟩ rfl;have f3:=hf 3 ⟨ "Value",73,3,false, "", "",48⟩ rfl;have f4:=hf 4 ⟨ "L",78,4,false, "", "",72⟩ rfl;have f5:=hf 5 ⟨ "Most",3,5,false, "", "",96⟩ rfl;rw[g 0 (by omega)] at f0;rw[g 1 (by omega)] at f1;rw[g 2 (by omega)] at f2;rw[g 3 (by omega)] at f3;rw[g 4 (by omega)] at f4;rw[g 5 (by omega)] at f5;simp only[Jy,Qw,Ll,Kr,Q8] at f0 f1 f2 f3 f4 f5;obtain⟨kd,e0,_,w0⟩:=DataW.trod_int Tryz.underlying5 f0;obtain⟨s,e1,hs1,hs2⟩:=DataW.trod_string Tryz.underlying9 f1;obtain⟨kv,kb,e2,h1,h2⟩:=GA f2;obtain⟨vv,vb,e3,h3,h4⟩:=GA f3;obtain⟨ao,l,cap,e4,h5,h6⟩:=Uo (m:=3) (by decide) (cells:=Br.cells) Tryz.underlying78 JH (fun h=>N7 h) f4;obtain⟨mo,e5,_,w5⟩:=DataW.trod_int Tryz.underlying3 f5
 have hcap:l.length≤cap∧cap≤maxLen:=by
  rcases open_slice Tryz.underlying78 f4 with⟨h0,_⟩|⟨a,len,cap',mm,n,D,Pl,hcs,hb,hl,hc,hmm,hx,hi⟩
  · rw[e4] at h0
    simp only[List.cons.injEq,Value.slice.injEq,and_true] at h0;omega
  rw[e4] at hcs;simp only[List.cons.injEq,Value.slice.injEq,and_true] at hcs;omega
 refine⟨⟨kd,s.data.toList,kv,kb,vv,vb,ao,l,cap,mo⟩,⟨bounds_u8 w0,by simpa using hs2,h1,h2,h3,h4,⟨h5,h6⟩,hcap,w5⟩,?_⟩;have a:cs.drop 5=(cs.drop 5).take 1:=(List.take_of_length_le (by simp[hl])).symm
 have:cs=(cs.drop 0).take 1++((cs.drop 1).take 1++((cs.drop 2).take 1++((cs.drop 3).take 1++((cs.drop 4).take 1++(cs.drop 5).take 1)))):=by
  rw[←a, ←Dx cs 4 1, ←Dx cs 3 1, ←Dx cs 2 1, ←Dx cs 1 1];exact Dx cs 0 1
 rw[this,e0,e1,e2,e3,e4,e5];simp only[Ce.cells,R7];rfl
def YO (W:World) (v:Value):Prop:=∃x:Ce,x.Good W∧v=.agg x.cells
def YA (W:World) (v:Value):Prop:=∃ao l cap,v=.slice ao (List.length l) cap∧G8 W ao l
end
end Go.Proofs.YtooijgcildbnlaaGreat.Law15
namespace Go.Proofs.YtooijgcildbnlaaGreat.ShaW
open Go.RowKit
def X8 (b:List UInt8) (k:Nat):Nat→UInt32
 | 0=>0
 | j+1=>wa (X8 b k j <<< 8) (b.getD (4*k+j) 0).toUInt32
end Go.Proofs.YtooijgcildbnlaaGreat.ShaW
namespace Go.Proofs.YtooijgcildbnlaaGreat.Store
open Go.RowKit Go.Proofs.YtooijgcildbnlaaGreat.ShaW Go.Proofs.YtooijgcildbnlaaGreat.Path
def Zb (w0 w:World) (v:Value) (l:List UInt8):Prop:=(∃q qc,v=.slice q l.length qc∧w.ownsRow w0.heap.size 5 1 (.slice q l.length qc) l.length (l.map bv))∧Adds w0 w

end Go.Proofs.YtooijgcildbnlaaGreat.Store
namespace Go.Proofs.YtooijgcildbnlaaGreat
open Go.RowKit
def YI (l:List (Array Value)):List Value:=l.flatMap Array.toList

end Go.Proofs.YtooijgcildbnlaaGreat
namespace Go.Proofs.YtooijgcildbnlaaGreat.Store
open Go.RowKit Go.Proofs.YtooijgcildbnlaaGreat.ShaW Go.Proofs.YtooijgcildbnlaaGreat.Path
structure Sp where
 kind:Nat
 d:Int
 key:List UInt8
 addr:Value
 value:List UInt8
 left:Int
 right:Int
 own:Int
 sides:Int
namespace Sp
def zero:Sp:=⟨0,0,Nd.z32,.slice none 0 0,[],0,0,0,0⟩
def cells (x:Sp):Array Value:=(.int .u8 (x.kind:Nat)::.int .i64 x.d::(x.key.map bv ++ [x.addr,.int .i64 x.left,.int .i64 x.right,.int .i64 x.own,.int .i64 x.sides])).toArray
structure Ok (x:Sp):Prop where
 key:x.key.length=32
 addr:∃ao len cap,x.addr=.slice ao len cap
 val:x.value.length≤1024
variable {x : Sp}
def entry (x:Sp):Array Value:=(x.key.map bv ++ [x.addr]).toArray
end Sp
structure Rs where
 space:Nat
 spots:List Sp
 free:List Nat
def Rs.sp (ρ:Rs) (h:Int):Sp:=if 1≤h then (match ρ.spots[(h-1).toNat]? with|some x=>if x.kind=0 then Sp.zero else x|none=>Sp.zero) else Sp.zero
def Rs.has (ρ:Rs) (h:Int):Bool:=decide ((ρ.sp h).kind≠0)
def Rs.setAt (ρ:Rs) (m:Nat) (x:Sp):Rs := { ρ with spots:=ρ.spots.set m x }
def Xx (s:Nd×Nat) (x:Sp):Prop :=
 (s.2=0∧x=Sp.zero)∨(s.2≠0∧x.kind=s.1.kind∧x.left=s.1.left∧x.right=s.1.right∧x.value=s.1.value∧(s.1.kind=1→x.key=s.1.key)∧(s.1.kind=2→x.d=s.1.depth)∧x.own=s.1.held∧x.own+x.sides=s.2)
structure Lk (σ:AA Nd) (ρ:Rs):Prop where
 space:ρ.space=σ.room
 free:ρ.free=σ.free
 len:ρ.spots.length=σ.slots.length
 slot:∀(m:Nat) s x,σ.slots[m]?=some s→ρ.spots[m]?=some x→Xx s x

structure Rs.Y3 (ρ:Rs):Prop where
 space:1≤ρ.space∧ρ.space≤65536
 len:ρ.spots.length≤ρ.space
 free:∀n∈ρ.free,1≤n∧n≤ρ.spots.length
 flen:ρ.free.length≤ρ.spots.length
 nums:∀x∈ρ.spots,x.Ok∧(0≤x.own∧x.own≤2147483648)∧(0≤x.sides∧x.sides≤2147483648)
def RAt (w:World) (b:Nat) (F:Nat→Prop) (ρ:Rs):Prop :=
 ρ.Y3∧∃vs vf,w.heap[b]?=some (.cells #[.bool true,.int .i64 (ρ.space:Nat),vs,vf] 272 (0,0)) ∧
  w.ownsRow 0 254 39 vs ρ.spots.length (YI (ρ.spots.map Sp.cells))∧w.ownsRow 0 3 1 vf ρ.free.length (ints ρ.free) ∧
  (∀x∈ρ.spots,Bytes w x.addr x.value∧∀k,x.addr.ownBlock=some k→F k∧k≠b∧vs.ownBlock≠some k∧vf.ownBlock≠some k) ∧
  F b∧(∀k,vs.ownBlock=some k→F k∧k≠b)∧(∀k,vf.ownBlock=some k→F k∧k≠b∧vs.ownBlock≠some k)∧(∀k,F k→k<w.heap.size)
def XJ (w w':World) (b:Nat) (F:Nat→Prop) (ρ:Rs):Prop:=∃F',RAt w' b F' ρ∧Ch F w w'∧∀k,F' k→F k∨w.heap.size≤k

section
variable {w w' : World} {b : Nat} {F : Nat→Prop} {ρ : Rs}
def Rs.depth (ρ:Rs) (n:Int):Int:=if (ρ.sp n).kind=2 then (ρ.sp n).d else -1
def Rs.Ao (ρ:Rs) (n:Int):Int:=if n=0 then 0 else if ρ.has n=false then 7 else if 0<ρ.depth n then 2 else 0
end
section
variable {w w' : World} {b : Nat} {F : Nat→Prop} {ρ : Rs}
def Rs.Zh (ρ:Rs) (n:Int):Bool:=decide (n=0)||(ρ.has n&&decide (0<(ρ.sp n).own))
def Rs.Y8 (ρ:Rs):Bool:=decide (ρ.free.length=0)&&decide (ρ.space≤ρ.spots.length)
end
section
variable {w w' : World} {b : Nat} {F : Nat→Prop} {ρ : Rs}
def Sp.RP (x:Sp):Sp := { x with own:=x.own-1,sides:=x.sides+1 }
def Rs.YT (ρ:Rs) (n d:Int):Rs:=match ρ.spots[(n-1).toNat]? with
 | some x=>ρ.setAt (n-1).toNat { x with own:=x.own+d }
 | none=>ρ
def Rs.YS (ρ:Rs) (n:Int):Int:=if ρ.has n=false then 7 else if 1073741824≤(ρ.sp n).own+(ρ.sp n).sides then 4 else 0
end
def Sp.held (x:Sp):Sp := { x with own:=1 }
def Rs.take (ρ:Rs) (x:Sp):Int×Rs:=match ρ.free.getLast? with
 | some n=>(n, { ρ with spots:=ρ.spots.set (n-1) x.held,free:=ρ.free.dropLast })
 | none=>((ρ.spots.length:Int)+1, { ρ with spots:=ρ.spots ++ [x.held] })

def Sp.leaf (K:List UInt8) (v:Value) (bs:List UInt8):Sp:=⟨1,0,K,v,bs,0,0,0,0⟩
def Sp.inner (d l r:Int):Sp:=⟨2,d,Nd.z32,.slice none 0 0,[],l,r,0,0⟩

section
variable {w w' : World} {b : Nat} {F : Nat→Prop} {ρ : Rs} {σ : AA Nd}
def Rs.ZK (ρ:Rs) (n:Int):Rs:=match ρ.spots[(n-1).toNat]? with
 | some x=>if n=0 then ρ else ρ.setAt (n-1).toNat x.RP
 | none=>ρ
end
end Go.Proofs.YtooijgcildbnlaaGreat.Store
namespace Go.Proofs.YtooijgcildbnlaaGreat.Store
open Go.RowKit Go.Sort Go.Proofs.YtooijgcildbnlaaGreat.ShaW Go.Proofs.YtooijgcildbnlaaGreat.Path Go.Proofs.YtooijgcildbnlaaGreat.BC
section
variable {b : Nat} {F : Nat→Prop} {ρ : Rs} {σ : AA Nd}
def Yq (w w':World) (F:Nat→Prop) (L:AN) (v:Value) (out:List Pr):Prop :=
 RowP w' w.heap.size v out∧out.map Pr.ent=L∧(out = []→v=.slice none 0 0)∧(∀x∈out,x.key.length=32∧Bytes w' x.vv x.val∧∀k,x.vv.ownBlock=some k→F k)∧Adds w w'
end
def Yp (d:Nat) (n:Nat) (k0:List UInt8) (i:Nat) (k:List UInt8):Prop:=AP k d=(if i<n then 0 else 1)∧d≤common k k0
def ZC (l r:Int) (kx ky:Nat):Bool:=((l == 0)&&(r == 0))||((l == 0)&&(ky == 1))||((r == 0)&&(kx == 1))
def ZF (d:Nat) (kx ky:Nat) (dx dy:Int):Bool:=((kx == 2)&&(dx != (d:Int)+1))||((ky == 2)&&(dy != (d:Int)+1))

end Go.Proofs.YtooijgcildbnlaaGreat.Store
namespace Go.Proofs.YtooijgcildbnlaaGreat.Store
open Go.RowKit Go.Proofs.YtooijgcildbnlaaGreat.ShaW Go.Proofs.YtooijgcildbnlaaGreat.Path
section
variable {w w' : World} {b : Nat} {F : Nat→Prop} {ρ : Rs} {σ : AA Nd}
def Yl (σ:AA Nd) (n:Int):Prop:=n=0∨∃(m:Nat) (s:Nd×Nat),n=(m:Int)+1∧σ.slots[m]?=some s∧s.2≠0∧1≤s.1.held∧s.1.held≤(s.2:Int)∧s.2≤1073741824
end
structure LkD (σ:AA Nd) (ρ:Rs) (m:Nat) (s:Nd×Nat) (x:Sp):Prop where
 space:ρ.space=σ.room
 free:ρ.free=σ.free
 len:ρ.spots.length=σ.slots.length
 hs:σ.slots[m]?=some s
 hx:ρ.spots[m]?=some x
 live:s.2≠0
 fits:x.kind=s.1.kind∧x.left=s.1.left∧x.right=s.1.right∧x.value=s.1.value∧(s.1.kind=1→x.key=s.1.key)∧(s.1.kind=2→x.d=s.1.depth)∧x.own=s.1.held∧x.own+x.sides+1=(s.2:Int)
 slot:∀(j:Nat) t y,j≠m→σ.slots[j]?=some t→ρ.spots[j]?=some y→Xx t y
section
variable {ρ : Rs} {σ : AA Nd} {m : Nat} {s : Nd×Nat} {x : Sp}
def Rs.freed (ρ:Rs) (m:Nat):Rs := { ρ with spots:=ρ.spots.set m Sp.zero,free:=ρ.free ++ [m+1] }
def Sp.less (x:Sp):Sp := { x with sides:=x.sides-1 }
end
section
variable {w w' : World} {b : Nat} {F : Nat→Prop} {ρ : Rs} {σ : AA Nd}
def Yy (w wz:World) (b:Nat) (F:Nat→Prop) (ρ:Rs) (X:Array Value):Prop :=
 ∃F',RAt wz b F' ρ∧Ch F w wz∧(∀k,F' k→F k∨w.heap.size<k)∧wz.heap[w.heap.size]?=some (.cells X 254 (0,0))∧∀k,F k→k<w.heap.size
end
def Ye (T b:Nat):Prop:=∀(σ:AA Nd) (ρ:Rs) (m:Nat) (s:Nd×Nat) (x:Sp) (rest:List Int) (w:World) (F:Nat→Prop),total σ≤T→Sound σ (((m:Int)+1)::rest)→LkD σ ρ m s x→RAt w b F ρ →
 Calls Tryz.prog 224 #[.pointer (some ⟨b,0,none⟩),.int .i64 ((m:Int)+1)] w fun e w'=>e=.returned (.int .i64 ((Bb σ [(m:Int)+1] 0).1:Nat))∧∃ρ',Lk (Bb σ [(m:Int)+1] 0).2 ρ'∧XJ w w' b F ρ'
section
variable {w w' : World} {b : Nat} {F : Nat→Prop} {ρ : Rs} {σ : AA Nd}
def kids (n:Int):List Int:=if n=0 then [] else [n]
end
section
variable {w w' : World} {b : Nat} {F : Nat→Prop} {ρ : Rs} {σ : AA Nd}
def Sp.Yt (x:Sp):Sp := { x with own:=x.own-1 }
end
section
variable {w0 w w' : World} {b : Nat} {σ σ' : AA Nd} {ρ : Rs} {F G : Nat→Prop}
def ROw (w0 w:World) (b:Nat) (σ:AA Nd) (G:Nat→Prop):Prop:=∃ρ F,RAt w b F ρ∧Lk σ ρ∧(∀k,F k→w0.heap.size≤k)∧Adds w0 w∧∀k,G k→¬F k∧k<w.heap.size
end
theorem _root_.Go.Proofs.YtooijgcildbnlaaGreat.Tag.LO.adds {w w':World} {v:Value} {ps:List (List UInt8)} (h:Tag.LO w v ps) (a:Adds w w'):Tag.LO w' v ps:=by
 obtain⟨ao,cap,rfl,hps⟩:=h;refine⟨ao,cap,rfl,fun i p hp=>?_⟩;obtain⟨g,off,x,e,hc,hb,hk⟩:=hps i p hp;exact⟨g,off,x,e,a.cell hc id,hb.AZ a (fun _ _ h=>h),fun h0 k h=>Nat.lt_of_lt_of_le (hk h0 k h) a.size⟩
end Go.Proofs.YtooijgcildbnlaaGreat.Store
namespace Go.Proofs.YtooijgcildbnlaaGreat.Store
open Go.RowKit Go.Sort Go.Proofs.YtooijgcildbnlaaGreat.ShaW Go.Proofs.YtooijgcildbnlaaGreat.Path Go.Proofs.YtooijgcildbnlaaGreat.BC
structure Lp (w:World) (v:Value) (out:List Pr):Prop where
 row:RowP w 0 v out
 nil:out = []→v=.slice none 0 0
 good:∀x∈out,x.Good w
theorem _root_.Go.Proofs.YtooijgcildbnlaaGreat.BC.Pr.Good.adds {w w':World} {x:Pr} (h:x.Good w) (a:Adds w w'):x.Good w' :=
 ⟨h.key,h.val.AZ a (fun _ _ h=>h),fun h0 k hk=>Nat.lt_of_lt_of_le (h.blk h0 k hk) a.size⟩
theorem _root_.Go.Proofs.YtooijgcildbnlaaGreat.BC.Pr.Good.one {w:World} {x:Pr} (h:x.Good w):∀u∈x.cells.toList,u.oneCell'=true:=fun u hu=>by
 obtain⟨ao,cap,e,_⟩:=h.val.form;rw[Pr.list,List.mem_append,List.mem_map,List.mem_singleton] at hu;rcases hu with⟨c,_,rfl⟩|rfl
 · rfl
 rw[e];rfl
def Y5 (b d:Nat) (l:List Pr):List Pr:=l.filter (fun x=>AP x.key d == b)
end Go.Proofs.YtooijgcildbnlaaGreat.Store
namespace Go.Proofs.YtooijgcildbnlaaGreat.Path
open Go.RowKit Go.Proofs.YtooijgcildbnlaaGreat.Store
def clr (x:UInt8) (j:Nat):UInt8:=UInt8.ofNat (x.toNat-B8 x j*2 ^ (7-j))
def Y1 (k:List UInt8) (d:Nat):List UInt8:=k.set (d / 8) (clr (k.getD (d / 8) 0) (d % 8))
def YB (k:List UInt8) (d:Nat):Nat→List UInt8
 | 0=>k
 | n+1=>Y1 (YB k d n) (d+n)
end Go.Proofs.YtooijgcildbnlaaGreat.Path

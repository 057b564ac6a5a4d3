/- Laws of the layers below. -/
import Derived.Test.YtngbdbpofifimaaGreatQm15
import Derived.OwnWalk
set_option maxHeartbeats 3200000
set_option maxRecDepth 100000
set_option linter.unusedVariables false
namespace Go.Proofs.YtngbdbpofifimaaGreat.Store
open Go.RowKit Go.Proofs.YtngbdbpofifimaaGreat.ShaW Go.Proofs.YtngbdbpofifimaaGreat.Path
section
variable {w0 w w' : World} {s : Nat} {σ : AG Nd} {F G : Nat→Prop}
def Ow (w0 w:World) (s:Nat) (σ:AG Nd) (G:Nat→Prop):Prop:=∃F,At w s F σ∧(∀k,F k→w0.heap.size≤k)∧AN w0 w∧∀k,G k→¬F k∧k<w.heap.size
abbrev But (G:Nat→Prop) (w w':World):Prop:=Ch (fun k=>¬G k) w w'
theorem But.row {g:Nat} {o:Obj} (h:But G w w') (hg:w.heap[g]?=some o) (hG:G g):w'.heap[g]?=some o:=Ch.row h hg (fun hn=>hn hG)
theorem AN.but (h:AN w w'):But G w w':=h.mono (fun _ _ h=>h.elim)
theorem But.then {w1 w2:World} (h:But G w w1) (h2:But G w1 w2):But G w w2:=h.Bj h2
theorem Ow.at (h:Ow w0 w s σ G):∃F,At w s F σ:=by obtain⟨F,h1,_⟩:=h;exact⟨F,h1⟩
theorem Ow.adds (h:Ow w0 w s σ G) (ha:AN w w'):Ow w0 w' s σ G:=by
 obtain⟨F,h1,h2,h3,h4⟩:=h;exact⟨F,h1.adds ha,h2,h3.trans ha (fun _=>fEq),fun k hk=>⟨(h4 k hk).1,Nat.lt_of_lt_of_le (h4 k hk).2 ha.size⟩⟩
theorem Ow.more (h:Ow w0 w s σ G) (ha:AN w w') {G':Nat→Prop} (hG:∀k,G' k→G k∨(w.heap.size≤k∧k<w'.heap.size)):Ow w0 w' s σ G':=by
 obtain⟨F,h1,h2,h3,h4⟩:=h;have hF:∀k,F k→k<w.heap.size:=by obtain⟨_,_,_,_,_,_,_,q⟩:=h1;exact q
 refine⟨F,h1.adds ha,h2,h3.trans ha (fun _=>fEq),fun k hk=>?_⟩;rcases hG k hk with h|⟨h,h'⟩
 · exact⟨(h4 k h).1,Nat.lt_of_lt_of_le (h4 k h).2 ha.size⟩
 exact⟨fun hf=>by have:=hF k hf;omega,h'⟩
theorem Ow.less {G':Nat→Prop} (h:Ow w0 w s σ G) (hG:∀k,G' k→G k):Ow w0 w s σ G':=by
 obtain⟨F,h1,h2,h3,h4⟩:=h;exact⟨F,h1,h2,h3,fun k hk=>h4 k (hG k hk)⟩
theorem Ow.Fj {σ':AG Nd} (h1:At w s F σ) (h2:∀k,F k→w0.heap.size≤k) (h3:AN w0 w) (h4:∀k,G k→¬F k∧k<w.heap.size) (hm:BF w w' s F σ'):Ow w0 w' s σ' G∧But G w w':=by
 obtain⟨F',g1,g2,g3⟩:=hm;refine⟨⟨F',g1,fun k hk=>(g3 k hk).elim (h2 k) (fun h=>Nat.le_trans h3.size h),h3.trans g2 (fun k hk=>.inr (h2 k hk)),fun k hk=>?_⟩,g2.mono (fun k _ hf hg=>(h4 k hg).1 hf)⟩;obtain⟨p,q⟩:=h4 k hk;exact⟨fun hf=>(g3 k hf).elim p (fun h=>by omega),Nat.lt_of_lt_of_le q g2.size⟩
theorem Ow.leaf (h:Ow w0 w s σ G) (key:List UInt8) (hk:key.length=32) {vv:Value} {bs:List UInt8} (hb:Bytes w vv bs) (hv:bs ≠ []→∀k,vv.ownBlock=some k→k<w.heap.size) :
 Calls Tryz.prog 127 #[.pointer (some ⟨s,0,none⟩),.agg (AS key),vv] w fun e w'=>∃v,e=.returned (.tuple #[.int .i64 (As σ key bs v).1,.int .i64 (As σ key bs v).2.1])∧Ow w0 w' s (As σ key bs v).2.2 G∧But G w w':=by
 obtain⟨F,h1,h2,h3,h4⟩:=h;exact(MU h1 key hk hb hv).mono fun e w' ⟨v,he,hm⟩=>⟨v,he,Ow.Fj h1 h2 h3 h4 hm⟩
theorem Ow.inner (h:Ow w0 w s σ G) (d l r:Int) :
 Calls Tryz.prog 206 #[.pointer (some ⟨s,0,none⟩),.int .i64 d,.int .i64 l,.int .i64 r] w fun e w'=>e=.returned (.tuple #[.int .i64 (Ag σ d l r).1,.int .i64 (Ag σ d l r).2.1])∧Ow w0 w' s (Ag σ d l r).2.2 G∧But G w w':=by
 obtain⟨F,h1,h2,h3,h4⟩:=h;exact(KJ h1 d l r).mono fun e w' ⟨he,hm⟩=>⟨he,Ow.Fj h1 h2 h3 h4 hm⟩
theorem Ow.hold (h:Ow w0 w s σ G) (n:Int) :
 Calls Tryz.prog 130 #[.pointer (some ⟨s,0,none⟩),.int .i64 n] w fun e w'=>e=.returned (.int .i64 (Au σ n).1)∧Ow w0 w' s (Au σ n).2 G∧But G w w':=by
 obtain⟨F,h1,h2,h3,h4⟩:=h;exact(MJ h1 n).mono fun e w' ⟨he,hm⟩=>⟨he,Ow.Fj h1 h2 h3 h4 hm⟩
theorem Ow.drop (h:Ow w0 w s σ G) (n:Int) :
 Calls Tryz.prog 31 #[.pointer (some ⟨s,0,none⟩),.int .i64 n] w fun e w'=>e=.returned (.tuple #[.int .i64 (Aw σ n).1,.int .i64 (Aw σ n).2.1])∧Ow w0 w' s (Aw σ n).2.2 G∧But G w w':=by
 obtain⟨F,h1,h2,h3,h4⟩:=h;exact(Ja h1 n).mono fun e w' ⟨he,hm⟩=>⟨he,Ow.Fj h1 h2 h3 h4 hm⟩
end
section
variable {w : World} {s : Nat} {σ : AG Nd} {F : Nat→Prop}
theorem Rl (h:At w s F σ) (n:Int) (key:List UInt8) (hk:key.length=32) :
 Calls Tryz.prog 180 #[.pointer (some ⟨s,0,none⟩),.int .i64 n,.agg (AS key)] w fun e w'=>e=.returned (.tuple #[.int .i64 (if bit key (depth σ n)=0 then (nd σ n).left else (nd σ n).right),.int .i64 (if bit key (depth σ n)=0 then (nd σ n).right else (nd σ n).left)])∧AN w w':=by
 obtain⟨K,hK⟩:∃K,K=AS key:=⟨_,rfl⟩
 have hKs:K.size=32:=by rw[hK,AU,hk]
 have hb:=Iy key hk (depth σ n);rw[←hK] at hb ⊢;obtain⟨bt,hbt⟩:∃b,b=bit key (depth σ n):=⟨_,rfl⟩
 rw[←hbt] at hb ⊢;have HA:=Lib.hid h;have HB:=Lib.hid hb;have HK:=Lib.hid hKs;clear h hb hK hbt hKs;obtain⟨lf,hlf⟩:∃x,x=(nd σ n).left:=⟨_,rfl⟩
 obtain⟨rg,hrg⟩:∃x,x=(nd σ n).right:=⟨_,rfl⟩
 have hsd:=GU (HA.out.adds ((Ch.refl (fun _=>False) w).alloc (.cells K 47))) n;rw[←hlf, ←hrg] at hsd ⊢;have HS:=Lib.hid hsd;clear hsd hlf hrg;go_enter Tryz.func180,Tryz.ntmps180;go_wp2_with fail;refine HS.out.mono ?_;rintro e w1 ⟨rfl,a1⟩;have hr1:=a1.row (heap_alloc_new w (.cells K 47)) id;have H1:=(hIq hr1 (((Ch.refl (fun _=>False) w).alloc (.cells K 47)).trans a1 (fun _=>fEq)))
 clear hr1 a1;go_wp2;refine AP (fun w0=>w0.heap[w.heap.size]?=some (.cells K 47 (0,0))) 6 [(0,false),(1,false),(2,false),(3,true),(4,true),(5,false)] (by kernel_rfl) (by kernel_rfl) ?_ ?_
 · exact AM H1.out.1
 refine Aa (cur:=K) (t:=47) (fr:=(0,0)) rfl rfl 47 (.tmp 5) rfl w.heap.size 0 32 rfl (fun w0 hS=>hS) Tryz.underlying47 rfl Ab (by rw[HK.out];omega) K (by simp[←HK.out]) ?_
 iterate 2 refine plan_look rfl rfl (fun w0 hS=>(by go_simp;try rfl)) ?_
 simp only[Act.put,nAq,nBq,nCq];refine AW rfl ?_;go_wp2_with fail;refine(Kg (HA.out.adds H1.out.2.drew) n).mono ?_;rintro e w2 ⟨rfl,a2⟩;dsimp only;go_step;refine wpList_nil ?_;change _∧_;have H2:=(hIq (a2.row (AM H1.out.1) id) (H1.out.2.drew.trans a2 (fun _=>fEq)))
 clear a2;refine⟨H2.out.1,?_⟩;refine AW rfl ?_;go_wp2_with fail;refine(HB.out w2).mono ?_;rintro e w3 ⟨rfl,a3⟩;dsimp only;go_step;refine wpList_nil ?_;change _∧_;have H3:=(hIq (a3.row H2.out.1 id) (H2.out.2.trans a3 (fun _=>fEq)))
 clear a3;refine⟨H3.out.1,?_⟩;by_cases hz:bt=0
 · refine plan_look (v:=.bool true) rfl rfl (fun w0 hS=>(by clear hS;go_simp;try rfl)) ?_
   simp only[Act.put,nAq,nBq,nCq];refine AZ ?_;simp only[List.drop_succ_cons,List.drop_zero];go_wp2;refine NoPanic.normal ?_;go_wp2;go_ret2;exact⟨rfl,H3.out.2⟩
 refine plan_look (v:=.bool false) rfl rfl (fun w0 hS=>(by clear hS;go_simp;try rfl)) ?_;simp only[Act.put,nAq,nBq,nCq];refine AZ ?_;simp only[List.drop_succ_cons,List.drop_zero];go_wp2;refine NoPanic.normal ?_;go_wp2;go_ret2;exact⟨rfl,H3.out.2⟩
def hl (l:List Int):List Value:=l.map fun n=>Value.int .i64 n
theorem LQ (l:List Int):(hl l).length=l.length:=by simp[hl]
theorem Hd {h:Int} {n:Nd} (hn:sk σ h=some n):has σ h=true∧(nd σ h).kind=n.kind∧(nd σ h).depth=n.depth∧(nd σ h).left=n.left∧(nd σ h).right=n.right∧(nd σ h).key=n.key∧(nd σ h).value=n.value:=by
 obtain⟨x,hx,rfl⟩:=Ev hn;rw[Ap hx];exact⟨CF hx,rfl,rfl,rfl,rfl,rfl,rfl⟩
theorem Mc (G:Good σ) (key:List UInt8) {root:Int} (hr:AX σ root=0):∃t l e,Rep (sk σ) root 0 t∧On (sk σ) key root 0 l e∧l.length≤256:=by
 have hroot:root=0∨∃n,sk σ root=some n∧(n.kind=2→n.depth=(0:Nat)):=by
  unfold AX at hr;by_cases h0:root=0
  · exact .inl h0
  right;rw[if_neg h0] at hr;cases hx:σ.get? root with
  | none=>rw[Dz hx] at hr;simp at hr
  | some x =>
   rw[CF hx,Ap hx] at hr;refine⟨_,Bl hx,fun hk=>?_⟩;have hk':x.1.kind=2:=hk;by_cases hd:x.1.depth=0
   · exact hd
   simp[hk',hd] at hr
 obtain⟨t,ht⟩:=Rep.ex G.fit 256 0 root rfl hroot;obtain⟨l,e,ho⟩:=On.ex (k:=key) ht;exact⟨t,l,e,ht,ho,by have:=ho.len G.fit (by omega);omega⟩
theorem No (h:At w s F σ) (G:Good σ) (root:Int) (key:List UInt8) (hk:key.length=32) (hr:AX σ root=0) {l:List Int} {e1:Int} (ho:On (sk σ) key root 0 l e1) :
 Calls Tryz.prog 179 #[.pointer (some ⟨s,0,none⟩),.int .i64 root,.agg (AS key)] w fun e w'=>∃v,e=.returned (.tuple #[v,.int .i64 e1,.int .i64 0])∧w'.ownsRow w.heap.size 3 1 v l.length (hl l)∧AN w w':=by
 obtain⟨i0,hi,hz0,hz1,hz2⟩:=SlabN.DZ;have HI:=(hIq hi (aIq hz0 (aIq hz1 hz2)))
 have hlen:l.length≤256:=by have:=ho.len G.fit (by omega);omega
 obtain⟨K,hK⟩:∃K,K=AS key:=⟨_,rfl⟩
 have hKs:K.size=32:=by rw[hK,AU,hk]
 have hoth:=fun w1 (a:AN w w1) n=>Rl (h.adds a) n key hk
 rw[←hK] at hoth ⊢;have hrt:=CU (h.adds ((Ch.refl (fun _=>False) w).alloc (.cells K 47))) root;rw[hr] at hrt;have hkd:=fun w1 (a:AN w w1) n=>IQ (h.adds a) n
 have HR:=Lib.hid hrt;have HO:=Lib.hid ho;have OT:=Lib.hid hoth;have KD:=Lib.hid hkd;have HG:=Lib.hid G;have HK:=Lib.hid hKs;clear hrt ho hoth hK h G hkd hi hz0 hz1 hz2 hr hKs;go_enter Tryz.func179,Tryz.ntmps179;go_wp2_with fail;refine HR.out.mono ?_;rintro e w1 ⟨rfl,a1⟩;have hr1:=a1.row (heap_alloc_new w (.cells K 47)) id;have H1:=(hIq hr1 (((Ch.refl (fun _=>False) w).alloc (.cells K 47)).trans a1 (fun _=>fEq)))
 clear hr1 a1;go_wp2
 go_loopg [6,7] l.length (fun g s6 s7 wr=>∃(acc rest:List Int) (h1:Int),l=acc++rest∧g=rest.length∧s7=.int .i64 h1∧On (sk σ) key h1 acc.length rest e1 ∧
  wr.ownsRow (w.heap.size+1) 3 1 s6 acc.length (hl acc)∧AN w wr∧wr.heap[w.heap.size]?=some (.cells K 47 (0,0)))
 case atStart=>exact⟨[],l,root,rfl,rfl,rfl,HO.out,World.ownsRow_nil _ _ _ _,H1.out.2,H1.out.1⟩
 obtain⟨acc,rest,h1,hl1,rfl,rfl,hon,hown,hA,hbx⟩:=hrel;have hsz:=hA.size;have hacc:acc.length+rest.length=l.length:=by rw[hl1,List.length_append]
 have HL:=(hIq hl1 (aIq hown (aIq hA hbx)))
 clear hl1 hown hA hbx;have hkind:=KD.out _ HL.out.2.2.1 h1;cases hon with
 | stop h0 =>
  have hk2:(nd σ e1).kind≠2:=by
   rcases h0 with rfl|⟨n,hn,hk2⟩
   · show(0:Nat)≠2;decide
   rw[(Hd hn).2.1];exact hk2
  obtain⟨kd,hkd⟩:∃x,x=(nd σ e1).kind:=⟨_,rfl⟩
  rw[←hkd] at hk2 hkind;have hk2':¬((kd:Int)=2):=by omega
  have KI:=Lib.hid hkind;clear hkind hkd h0;go_wp2_with fail;refine KI.out.mono ?_;rintro e w3 ⟨rfl,a3⟩;have H3:=Lib.hid a3;clear a3;go_wp2;go_ret3;refine⟨_,rfl,?_,HL.out.2.2.1.trans H3.out (fun _=>fEq)⟩;have:=(H3.out.owns HL.out.2.1 (fun _ _ h=>h)).base (b':=w.heap.size) (fun k hk=>Nat.le_trans (Nat.le_succ _) ((HL.out.2.1).lt k hk).1);rw[HL.out.1,List.append_nil];exact this
 | @step _ _ n l2 _ hn hk2 hd hr2 =>
  have hx:=Hd hn;have hdp:depth σ h1=(acc.length:Nat):=by unfold depth;rw[if_pos hx.1,hx.2.2.1];exact hd
  have hot:=fun w1 a=>OT.out w1 a h1
  rw[hdp] at hot;have hd1:=(HG.out.fit.inner hn hk2).d1;rw[hd] at hd1;have hbit:bit key (acc.length:Nat)=(Ao key acc.length:Nat):=Da (by omega);obtain⟨nx,hnx⟩:∃x,x=(if Ao key acc.length=0 then n.left else n.right):=⟨_,rfl⟩
  have hsame:(if bit key (acc.length:Nat)=0 then (nd σ h1).left else (nd σ h1).right)=nx:=by
   rw[hbit,hnx,hx.2.2.2.1,hx.2.2.2.2.1];by_cases hb:Ao key acc.length=0
   · rw[if_pos (by omega),if_pos hb]
   rw[if_neg (by omega),if_neg hb]
  rw[hsame] at hot;obtain⟨ny,hny⟩:∃y,y=(if bit key (acc.length:Nat)=0 then (nd σ h1).right else (nd σ h1).left):=⟨_,rfl⟩
  rw[←hny] at hot;rw[←hnx] at hr2;have HN:=(hIq hr2 hot)
  rw[show(nd σ h1).kind=2 by rw[hx.2.1];exact hk2] at hkind;have KI:=Lib.hid hkind;have hrl:l2.length+1=(h1::l2).length:=rfl;have hacc':acc.length≤256:=by omega
  clear hkind hn hk2 hd hx hdp hot hd1 hbit hnx hsame hny hr2;go_wp2_with fail;refine KI.out.mono ?_;rintro e w3 ⟨rfl,a3⟩;have o3:=a3.owns HL.out.2.1 (fun _ _ h=>h);have b3:=a3.row HL.out.2.2.2 id;have A3:=HL.out.2.2.1.trans a3 (fun _=>fEq);have s3:=A3.size;have H3:=(hIq o3 (aIq b3 A3))
  have s3':=Ad b3;clear a3 o3 b3 A3
  go_wp2_with (first
   | fail
   | (at_builtin;refine wpList_append_own_at _ rfl _ _ 61 rfl (w.heap.size+1) 3 i0 (.int .i64 0) 1 8 Tryz.underlying61 HI.out.1 HI.out.2.1 HI.out.2.2.1 HI.out.2.2.2 rfl (by decide) u6 _ _ rfl (H3.out.1.alloc _) ⟨w3.heap.size,0,none⟩ 1 1 [.int .i64 h1] rfl rfl (cell_one_new _ _ _) (by simp[Value.oneCell']) (by unfold maxLen;omega) (by omega) (by simp;omega) ?_;intro v' w4 hown' hgrow hnil hloc;have hg4:=((Ch.refl (fun j=>Value.ownBlock u6=some j) w3).alloc _).grown hgrow (fun j hj=>.inl hj);have HN4:=(hIq hown' (aIq (H3.out.2.2.trans hg4 (fun j hj=>.inr (Nat.le_trans (Nat.le_succ _) (H3.out.1.lt j hj).1))) (hg4.row H3.out.2.1 (fun hj=>Nat.lt_irrefl _ (H3.out.1.lt _ hj).1))));clear hown' hgrow hnil hloc hg4)
   | ((with_reducible show zOq (.load 47 _));refine AJ rfl 47 _ rfl w.heap.size 0 rfl HN4.out.2.2 Tryz.underlying47 rfl Ab (by rw[HK.out];omega) K (by simp[←HK.out]) ?_))
  refine(HN.out.2 _ HN4.out.2.1).mono ?_;rintro e w5 ⟨rfl,a5⟩;have H5:=(hIq (a5.owns HN4.out.1 (fun _ _ h=>h)) (aIq (HN4.out.2.1.trans a5 (fun _=>fEq)) (a5.row HN4.out.2.2 id)))
  clear a5;go_wp2;go_roundg l2.length
  case measure=>simp
  exact⟨acc ++ [h1],l2,nx,by rw[HL.out.1];simp,rfl,rfl,by simpa using HN.out.1,by simpa[hl] using H5.out.1,H5.out.2.1,H5.out.2.2⟩
end
section
variable {w0 w : World} {s : Nat} {σ : AG Nd} {F G : Nat→Prop}
theorem Dn (h:At w s F σ) (root:Int):Calls Tryz.prog 124 #[.pointer (some ⟨s,0,none⟩),.int .i64 root] w fun e w'=>e=.returned (.int .i64 (Az σ root))∧AN w w':=by
 have hrt:=CU h root;have hh:=fun w1 (a:AN w w1)=>Um (h.adds a) root
 unfold Az;obtain⟨er,her⟩:∃x,x=AX σ root:=⟨_,rfl⟩
 obtain⟨hd,hhd⟩:∃x,x=(nd σ root).held:=⟨_,rfl⟩
 rw[←her] at hrt ⊢;rw[←hhd] at hh ⊢;have HR:=Lib.hid hrt;have HH:=Lib.hid hh;clear hrt hh her hhd h;by_cases h0:er=0
 · subst h0
   rw[if_neg (by simp)];by_cases h1:root=0
   · subst h1
     rw[if_neg (by simp)];go_enter Tryz.func124,Tryz.ntmps124;go_wp2_with fail;refine HR.out.mono ?_;rintro e w1 ⟨rfl,a1⟩;go_wp2;go_ret;exact⟨rfl,a1⟩
   by_cases h2:hd=0
   · rw[if_pos ⟨h1,h2⟩]
     go_enter Tryz.func124,Tryz.ntmps124;go_wp2_with fail;refine HR.out.mono ?_;rintro e w1 ⟨rfl,a1⟩;go_wp2_with fail;refine(HH.out _ a1).mono ?_;rintro e w2 ⟨rfl,a2⟩;go_wp2;go_ret;exact⟨rfl,a1.trans a2 (fun _=>fEq)⟩
   rw[if_neg (fun h=>h2 h.2)];have e1:(hd == 0)=false:=by simpa using h2
   have e2:(root != 0)=true:=by simpa using h1
   go_enter Tryz.func124,Tryz.ntmps124;go_wp2_with fail;refine HR.out.mono ?_;rintro e w1 ⟨rfl,a1⟩;go_wp2_with fail;refine(HH.out _ a1).mono ?_;rintro e w2 ⟨rfl,a2⟩;go_wp2;go_ret;exact⟨rfl,a1.trans a2 (fun _=>fEq)⟩
 rw[if_pos h0];go_enter Tryz.func124,Tryz.ntmps124;go_wp2_with fail;refine HR.out.mono ?_;rintro e w1 ⟨rfl,a1⟩;go_wp2;go_ret;exact⟨rfl,a1⟩
def C9 (σ:AG Nd) (j:Int):Bool:=decide (0≤j)&&(decide (j≤64)&&decide ((σ.used:Int)+258*j≤σ.room))
theorem At.JX (h:At w s F σ):σ.used≤65536∧1≤σ.room∧σ.room≤65536:=by
 have h1:=h.len;have h2:=h.room;unfold AG.used;omega
theorem JZ (h:At w s F σ) (j:Int):Calls Tryz.prog 125 #[.pointer (some ⟨s,0,none⟩),.int .i64 j] w fun e w'=>e=.returned (.bool (C9 σ j))∧w=w':=by
 obtain⟨hu,hr1,hr2⟩:=h.JX;have hrm:=DU h;have hoc:=NV h;unfold C9;obtain⟨rm,hrm'⟩:∃x,x=σ.room:=⟨_,rfl⟩
 obtain⟨us,hus⟩:∃x,x=σ.used:=⟨_,rfl⟩
 rw[←hrm'] at hrm hr1 hr2 ⊢;rw[←hus] at hoc hu ⊢;have HR:=Lib.hid hrm;have HO:=Lib.hid hoc;clear hrm hoc hrm' hus h;have hpos:(0:Int)<(rm:Int):=by omega
 by_cases h0:0≤j
 · rw[decide_eq_true h0,Bool.true_and]
   by_cases h1:j≤64
   · rw[decide_eq_true h1,Bool.true_and]
     have hw:IntKind.i64.wrap (258*j)=258*j:=by rw[IntKind.wrap];simp[IntKind.signed,IntKind.bits];omega
     have hw2:IntKind.i64.wrap ((us:Int)+258*j)=(us:Int)+258*j:=by rw[IntKind.wrap];simp[IntKind.signed,IntKind.bits];omega
     obtain⟨p,hp⟩:∃p,p=258*j:=⟨_,rfl⟩
     rw[←hp] at hw hw2 ⊢;obtain⟨q,hq⟩:∃q,q=(us:Int)+p:=⟨_,rfl⟩
     rw[←hq] at hw2 ⊢;go_enter Tryz.func125,Tryz.ntmps125;go_wp2_with fail;refine HR.out.mono ?_;rintro e w1 ⟨rfl,rfl⟩;go_wp2_with fail;refine HO.out.mono ?_;rintro e w1 ⟨rfl,rfl⟩;go_wp2_with fail;refine HR.out.mono ?_;rintro e w1 ⟨rfl,rfl⟩;go_wp2;go_ret;refine⟨?_,rfl⟩;simp[go_sem,hq,hp]
   rw[decide_eq_false h1,Bool.false_and];go_enter Tryz.func125,Tryz.ntmps125;go_wp2_with fail;refine HR.out.mono ?_;rintro e w1 ⟨rfl,rfl⟩;go_wp2;go_ret;exact⟨rfl,rfl⟩
 rw[decide_eq_false h0,Bool.false_and];go_enter Tryz.func125,Tryz.ntmps125;go_wp2_with fail;refine HR.out.mono ?_;rintro e w1 ⟨rfl,rfl⟩;go_wp2;go_ret;exact⟨rfl,rfl⟩
theorem Ga (h:Ow w0 w s σ G) (d:Int) (key:List UInt8) (hk:key.length=32) (own other:Int) :
 Calls Tryz.prog 131 #[.pointer (some ⟨s,0,none⟩),.int .i64 d,.agg (AS key),.int .i64 own,.int .i64 other] w fun e w'=>e=.returned (.int .i64 (CY σ key d own other).1)∧Ow w0 w' s (CY σ key d own other).2.2 G∧But G w w':=by
 have hb:=Iy key hk d;unfold CY;obtain⟨K,hK⟩:∃K,K=AS key:=⟨_,rfl⟩
 have hKs:K.size=32:=by rw[hK,AU,hk]
 obtain⟨bt,hbt⟩:∃b,b=bit key d:=⟨_,rfl⟩
 rw[←hK, ←hbt] at hb;rw[←hK, ←hbt];have HB:=Lib.hid hb;have HA:=Lib.hid h;have HK:=Lib.hid hKs;clear hb h hK hbt hKs;have hin:=fun w1 (a:AN w w1)=>(HA.out.adds a).inner d
 have HI:=Lib.hid hin;clear hin;by_cases hz:bt=1
 · rw[if_pos hz,if_pos hz]
   subst hz;go_enter Tryz.func131,Tryz.ntmps131
   go_wp2_with (first
    | fail
    | ((with_reducible show zOq (.load 47 _));refine AJ rfl 47 _ rfl w.heap.size 0 rfl (heap_alloc_new w (.cells K 47)) Tryz.underlying47 rfl Ab (by rw[HK.out];omega) K (by simp[←HK.out]) ?_))
   refine(HB.out _).mono ?_;rintro e w1 ⟨rfl,a1⟩;have A1:=Lib.hid (((Ch.refl (fun _=>False) w).alloc (.cells K 47)).trans a1 (fun _=>fEq));clear a1;go_wp2_with fail;refine(HI.out _ A1.out other own).mono ?_;rintro e w2 ⟨rfl,o2,b2⟩;go_wp2;go_ret;exact⟨rfl,o2,(AN.but A1.out).then b2⟩
 rw[if_neg hz,if_neg hz];go_enter Tryz.func131,Tryz.ntmps131
 go_wp2_with (first
  | fail
  | ((with_reducible show zOq (.load 47 _));refine AJ rfl 47 _ rfl w.heap.size 0 rfl (heap_alloc_new w (.cells K 47)) Tryz.underlying47 rfl Ab (by rw[HK.out];omega) K (by simp[←HK.out]) ?_))
 refine(HB.out _).mono ?_;rintro e w1 ⟨rfl,a1⟩;have A1:=Lib.hid (((Ch.refl (fun _=>False) w).alloc (.cells K 47)).trans a1 (fun _=>fEq));clear a1;go_wp2_with fail;refine(HI.out _ A1.out own other).mono ?_;rintro e w2 ⟨rfl,o2,b2⟩;go_wp2;go_ret;exact⟨rfl,o2,(AN.but A1.out).then b2⟩
end
theorem Am {w:World} {b e n sz:Nat} {v:Value} {xs:List Value} (h:w.ownsRow b e sz v n xs):∃ao cap,v=.slice ao n cap:=by
 obtain⟨_,h⟩:=h;rcases h with⟨rfl,rfl⟩|⟨g,cap,cur,rfl,_⟩
 · exact⟨_,_,rfl⟩
 exact⟨_,_,rfl⟩
def GF (bs:List UInt8):ByteArray:=⟨bs.toArray⟩
theorem ME (a b:List UInt8):((GF a).toList == (GF b).toList)=decide (a=b):=by
 rw[ByteArray.toList_eq,ByteArray.toList_eq];by_cases h:a=b
 · subst h;simp
 rw[decide_eq_false h];simpa[GF] using h
theorem Cb {w:World} {v:Value} {bs:List UInt8} (h:Bytes w v bs):(convert 29 9 v).run Tryz.prog w=.ok (.string (GF bs)) w:=by
 obtain⟨ao,cap,rfl,h2,h3,h4⟩:=h;rw[run_convert_bytes_string w 29 9 5 ao bs.length cap Tryz.underlying29 Tryz.underlying5 Tryz.underlying9];cases ao with
 | none =>
  cases bs with
  | nil=>simp[Conv.bytesToString];rfl
  | cons x bs=>obtain⟨g,off,h,_⟩:=h4 0 x rfl;cases h
 | some a =>
  have hl:(loadCells a bs.length).run Tryz.prog w=.ok ((bs.map fun b=>(b.toNat:Int)).map (Value.int .u8)).toArray w:=by
   have:=run_loadCells_list (P:=Tryz.prog) w a (bs.map bv) (fun j v hj=>by
    simp only[List.getElem?_map,Option.map_eq_some_iff] at hj;obtain⟨x,hx,rfl⟩:=hj;obtain⟨g,off,ha,hc⟩:=h4 j x hx;cases ha;rw[add_plain];exact hc)
   rw[List.length_map] at this;rw[this,List.map_map];rfl
  rw[run_bytesToString w a bs.length cap _ hl,foldl_push_bytes];simp only[List.map_map]
  have e:(List.map ((fun n:Int=>UInt8.ofNat n.toNat) ∘ fun b:UInt8=>(b.toNat:Int)) bs)=bs:=by
   rw[show((fun n:Int=>UInt8.ofNat n.toNat) ∘ fun b:UInt8=>(b.toNat:Int))=id from funext fun b=>by simp];exact List.map_id bs
  rw[e]
  first
   | (simp[GF,ByteArray.empty,ByteArray.emptyWithCapacity];done)
   | (simp[GF,ByteArray.empty,ByteArray.emptyWithCapacity];rfl)
theorem Ay {P:Program} {S:World→Prop} {Q:Exit→Act→World→Prop} {l:List Oper} {n i:Nat} {r:List (Nat×Bool)} {a:Act} {w:World} {o:Oper} (ho:l[i]?=some o) (hw:Region.wanted o (yielded l.toArray a.tmps)=true) (ty:TypeId) (x:Operand) (hop:o.op=.load ty x) (g off k:Nat) (hx:a.eval x=.pointer (some ⟨g,off,none⟩))
 {t:TypeId} {cur:Array Value} {fr:Nat×Nat} {d:TypeDesc} (hg:∀w0,S w0→w0.heap[g]?=some (.cells cur t fr)) (hu:P.underlying ty=some d) (hd:d.isRow=true) (hi:(P.info? ty).map (·.size)=some k) (hfit:off+k≤cur.size) (cs:Array Value) (hv:cur.extract off (off+k)=cs)
 (h:BQ P l Q S n r (a.put o.dst (.agg cs)) w):BQ P l Q S n ((i,false)::r) a w :=
 plan_look ho hw (fun w0 hS=>by
  unfold execOp;simp only[hop,hx,Instr.loadAt,Instr.sureAddr,Sem.run_bind,Sem.run_pure,Result.andThen_ok,BU w0 (hg w0 hS) hu hd hi hfit,hv]) h
theorem DW {P:Program} {S:World→Prop} {Q:Exit→Act→World→Prop} {l:List Oper} {n i:Nat} {r:List (Nat×Bool)} {a:Act} {w:World} {o:Oper} (ho:l[i]?=some o) (hw:Region.wanted o (yielded l.toArray a.tmps)=true) (t1 t2:TypeId) (x:Operand) (u:Value) (hop:o.op=.convert t1 t2 x) (vx:Value) (hx:a.eval x=vx)
 (hy:∀w0,S w0→(convert t1 t2 vx).run P w0=.ok u w0) (h:BQ P l Q S n r (a.put o.dst u) w):BQ P l Q S n ((i,false)::r) a w :=
 plan_look ho hw (fun w0 hS=>by
  unfold execOp;simp only[hop,hx,Sem.run_bind,hy w0 hS,Result.andThen_ok];rfl) h
def FindAt (w w3:World) (ao:Option Addr) (cap:Nat) (l:List Int) (e1:Int) (K:Array Value) (x y:Bool):Prop :=
 w3.heap[w.heap.size+1]?=some (.cells #[.slice ao l.length cap,.int .i64 e1,.bool x,.bool y] 220 (0,0)) ∧
 w3.heap[w.heap.size]?=some (.cells K 47 (0,0))∧AN w w3∧w3.ownsRow w.heap.size 3 1 (.slice ao l.length cap) l.length (hl l)∧∀k,(Value.slice ao l.length cap).ownBlock=some k→w.heap.size+2≤k
theorem FindAt.adds {w w3 w':World} {ao:Option Addr} {cap:Nat} {l:List Int} {e1:Int} {K:Array Value} {x y:Bool} (h:FindAt w w3 ao cap l e1 K x y) (a:AN w3 w'):FindAt w w' ao cap l e1 K x y :=
 ⟨a.row h.1 id,a.row h.2.1 id,h.2.2.1.trans a (fun _=>fEq),a.owns h.2.2.2.1 (fun _ _ h=>h),h.2.2.2.2⟩
theorem FindAt.done {w w3:World} {ao:Option Addr} {cap:Nat} {l:List Int} {e1:Int} {K:Array Value} {x y:Bool} (h:FindAt w w3 ao cap l e1 K x y) (x' y':Bool) :
 FindAt w ((w3.setCell ⟨w.heap.size+1,2,none⟩ (.bool x')).setCell ⟨w.heap.size+1,3,none⟩ (.bool y')) ao cap l e1 K x' y':=by
 obtain⟨h1,h2,h3,h4,h5⟩:=h;refine⟨?_,Ak (Ak h2 (by simp) _) (by simp) _,(h3.setCell (.inr (Nat.le_succ _)) _).setCell (.inr (Nat.le_succ _)) _,?_,h5⟩
 · have:=AV (AV h1 2 (.bool x')) 3 (.bool y')
   simpa using this
 have c:Ch (fun k=>k=w.heap.size+1) w3 ((w3.setCell ⟨w.heap.size+1,2,none⟩ (.bool x')).setCell ⟨w.heap.size+1,3,none⟩ (.bool y')):=((Ch.refl (fun k=>k=w.heap.size+1) w3).setCell (.inl rfl) _).setCell (.inl rfl) _;exact c.owns h4 (fun k hk hkk=>by have:=h5 k hk;omega)
theorem FindAt.Wf {w w3:World} {ao:Option Addr} {cap:Nat} {l:List Int} {e1:Int} {K:Array Value} {x y:Bool} (h:FindAt w w3 ao cap l e1 K x y) (x':Bool) :
 FindAt w (w3.setCell ⟨w.heap.size+1,2,none⟩ (.bool x')) ao cap l e1 K x' y:=by
 obtain⟨h1,h2,h3,h4,h5⟩:=h;refine⟨?_,Ak h2 (by simp) _,h3.setCell (.inr (Nat.le_succ _)) _,?_,h5⟩
 · have:=AV h1 2 (.bool x')
   simpa using this
 have c:Ch (fun k=>k=w.heap.size+1) w3 (w3.setCell ⟨w.heap.size+1,2,none⟩ (.bool x')):=(Ch.refl (fun k=>k=w.heap.size+1) w3).setCell (.inl rfl) _;exact c.owns h4 (fun k hk hkk=>by have:=h5 k hk;omega)
theorem FindAt.drew {w w3:World} {ao:Option Addr} {cap:Nat} {l:List Int} {e1:Int} {K:Array Value} {x y:Bool} (h:FindAt w w3 ao cap l e1 K x y):FindAt w w3.drew ao cap l e1 K x y:=⟨h.1,h.2.1,h.2.2.1.drew,h.2.2.2.1,h.2.2.2.2⟩
section
variable {w : World} {s : Nat} {σ : AG Nd} {F : Nat→Prop}
theorem EW:(Tryz.prog.info? 220).map (·.size)=some 4:=by kernel_rfl
theorem MG (h:At w s F σ) (G:Good σ) (root:Int) (key:List UInt8) (hk:key.length=32) (hr:AX σ root=0) {l:List Int} {e1:Int} (ho:On (sk σ) key root 0 l e1) {vv:Value} {bs:List UInt8} (hb:Bytes w vv bs) :
 Calls Tryz.prog 126 #[.pointer (some ⟨s,0,none⟩),.int .i64 root,.agg (AS key),vv] w fun e w'=>∃v,e=.returned (.agg #[v,.int .i64 e1,.bool (Dh σ key bs e1),.bool (B7 σ key e1)])∧w'.ownsRow w.heap.size 3 1 v l.length (hl l)∧AN w w':=by
 obtain⟨K,hK⟩:∃K,K=AS key:=⟨_,rfl⟩
 have hKs:K.size=32:=by rw[hK,AU,hk]
 have hha:=fun w1 (a:AN w w1)=>No (h.adds a) G root key hk hr ho
 have hkl:=(h.ok e1).key;have heq:=IH 47 Tryz.underlying47 (nd σ e1).key key hkl hk;have hky:=fun w1 (a:AN w w1)=>I3 (h.adds a) e1
 have hvl:=fun w1 (a:AN w w1)=>Hu (h.adds a) e1
 have hkd:=fun w1 (a:AN w w1)=>IQ (h.adds a) e1
 unfold Dh B7;obtain⟨kd,hkd'⟩:∃x,x=(nd σ e1).kind:=⟨_,rfl⟩
 obtain⟨ek,hek⟩:∃x,x=decide ((nd σ e1).key=key):=⟨_,rfl⟩
 have hne:decide ((nd σ e1).key≠key) = !ek:=by rw[hek];simp
 obtain⟨K2,hK2⟩:∃K2,K2=AS (nd σ e1).key:=⟨_,rfl⟩
 obtain⟨vl,hvl'⟩:∃x,x=(nd σ e1).value:=⟨_,rfl⟩
 rw[hne];rw[←hK, ←hK2, ←hek] at heq;rw[←hK2] at hky;rw[←hvl'] at hvl;rw[←hkd'] at hkd;rw[←hK] at hha;rw[←hK, ←hek, ←hkd', ←hvl'];have HA:=Lib.hid hha;have HQ:=Lib.hid heq;have HY:=Lib.hid hky;have HV:=Lib.hid hvl;have HD:=Lib.hid hkd;have HK:=Lib.hid hKs;have HB:=Lib.hid hb;clear hha heq hky hvl hkd hKs hb hK hK2 hek hkd' hvl' hne hkl h G ho hr;obtain⟨W,hW⟩:∃W,W=(w.alloc (.cells K 47)).alloc (.cells #[.slice none 0 0,.int .i64 0,.bool false,.bool false] 220):=⟨_,rfl⟩
 have hWa:AN w W:=by rw[hW];exact((Ch.refl _ _).alloc _).alloc _
 have hWk:W.heap[w.heap.size]?=some (.cells K 47 (0,0)):=by rw[hW];exact AQ (heap_alloc_new _ _) _
 have hWp:W.heap[w.heap.size+1]?=some (.cells #[.slice none 0 0,.int .i64 0,.bool false,.bool false] 220 (0,0)):=by
  rw[hW];have:=heap_alloc_new (w.alloc (.cells K 47)) (.cells #[.slice none 0 0,.int .i64 0,.bool false,.bool false] 220);simpa using this
 have hWs:W.heap.size=w.heap.size+2:=by rw[hW];simp
 have HW:=(hIq hWa (aIq hWk (aIq hWp hWs)))
 clear hWa hWk hWp hWs;have hr0:=HW.out.2.1;go_enter Tryz.func126,Tryz.ntmps126
 go_wp2_with (first
  | fail
  | ((with_reducible show zOq (.load 47 _));refine AJ rfl 47 _ rfl w.heap.size 0 rfl (AQ (heap_alloc_new w (.cells K 47)) _) Tryz.underlying47 rfl Ab (by rw[HK.out];omega) K (by simp[←HK.out]) ?_))
 rw[←hW];refine(HA.out _ HW.out.1).mono ?_;rintro e w1 ⟨v,rfl,o1,a1⟩;obtain⟨ao,cap,rfl⟩:=Am o1;have hp1:=a1.row HW.out.2.2.1 id;have hk1:=a1.row HW.out.2.1 id;have hvb:∀k,(Value.slice ao l.length cap).ownBlock=some k→w.heap.size+2≤k:=fun k hk=>by rw[←HW.out.2.2.2];exact(o1.lt k hk).1
 have H1:=(hIq o1 (aIq (HW.out.1.trans a1 (fun _=>fEq)) (aIq hp1 (aIq hk1 hvb))))
 clear o1 a1 hk1 hvb hr0 hW;have q0:=AH hp1 (i:=0) rfl;have q1:=AH hp1 (i:=1) rfl;have q2:=Ai hp1 0;have q3:=Ai hp1 1;clear hp1;go_upto_region 2 with fail;obtain⟨w2,hw2⟩:∃w2,w2=(w1.setCell ⟨w.heap.size+1,0,none⟩ (.slice ao l.length cap)).setCell ⟨w.heap.size+1,1,none⟩ (.int .i64 e1):=⟨_,rfl⟩
 rw[←hw2]
 have p2:w2.heap[w.heap.size+1]?=some (.cells #[.slice ao l.length cap,.int .i64 e1,.bool false,.bool false] 220 (0,0)):=by
  rw[hw2];have:=AV (AV H1.out.2.2.1 0 (.slice ao l.length cap)) 1 (.int .i64 e1);simpa using this
 have k2:w2.heap[w.heap.size]?=some (.cells K 47 (0,0)):=by
  rw[hw2];exact Ak (Ak H1.out.2.2.2.1 (by simp) _) (by simp) _
 have A2:AN w w2:=by
  rw[hw2];exact(H1.out.2.1.setCell (.inr (Nat.le_succ _)) _).setCell (.inr (Nat.le_succ _)) _
 have o2:w2.ownsRow w.heap.size 3 1 (.slice ao l.length cap) l.length (hl l):=by
  rw[hw2];have c:Ch (fun k=>k=w.heap.size+1) w1 ((w1.setCell ⟨w.heap.size+1,0,none⟩ (.slice ao l.length cap)).setCell ⟨w.heap.size+1,1,none⟩ (.int .i64 e1)):=((Ch.refl (fun k=>k=w.heap.size+1) w1).setCell (.inl rfl) _).setCell (.inl rfl) _;refine(c.owns H1.out.1 (fun k hk hkk=>?_)).base (fun k hk=>?_)
  · have:=H1.out.2.2.2.2 k hk;omega
  have:=H1.out.2.2.2.2 k hk;omega
 clear q0 q1 q2 q3;have H2:=(hIq p2 (aIq k2 (aIq A2 (aIq o2 H1.out.2.2.2.2))))
 have q1:=AH p2 (i:=1) rfl;clear p2 k2 A2 o2 hw2 H1;go_wp2_with fail;refine(HD.out _ H2.out.2.2.1).mono ?_;rintro e w3 ⟨rfl,a3⟩;have H3:RowKit.Hid (FindAt w w3 ao cap l e1 K false false):=Lib.hid (FindAt.adds H2.out a3);clear q1 a3 H2;by_cases hk1:kd=1
 · subst hk1
   have e1':(((1:Nat):Int) == 1)=true:=rfl;go_wp2;refine AP (fun w0=>FindAt w w0 ao cap l e1 K false false) 9 [(0,false),(1,false),(2,false),(3,false),(4,false),(6,false),(5,true),(7,false),(8,false)] (by kernel_rfl) (by kernel_rfl) ?_ ?_
   · exact H3.out.drew
   iterate 4
    iterate 1 refine plan_look rfl rfl (fun w0 hS=>(by go_simp;try rfl)) ?_
    simp only[Act.put,nAq,nBq,nCq]
   refine plan_look (v:=.int .i64 e1) rfl rfl (fun w0 hS=>(by have q1:=AH hS.1 (i:=1) rfl;clear hS;go_simp;try rfl)) ?_;simp only[Act.put,nAq,nBq,nCq];refine Ay (cur:=K) (t:=47) (fr:=(0,0)) rfl rfl 47 (.tmp 6) rfl w.heap.size 0 32 rfl (fun w0 hS=>hS.2.1) Tryz.underlying47 rfl Ab (by rw[HK.out];omega) K (by simp[←HK.out]) ?_;simp only[Act.put,nAq,nBq,nCq];refine AW rfl ?_;go_wp2_with fail;refine(HY.out _ H3.out.drew.2.2.1).mono ?_;rintro e w4 ⟨rfl,a4⟩;have H4:RowKit.Hid (FindAt w w4 ao cap l e1 K false false):=Lib.hid (H3.out.drew.adds a4);clear a4;dsimp only;go_step;refine wpList_nil ?_;change _∧_;refine⟨H4.out,?_⟩;refine plan_look (v:=.bool ek) rfl rfl (fun w0 hS=>(by have hq:=HQ.out w0;rw[run_eql_struct] at hq;clear hS;go_simp)) ?_;simp only[Act.put,nAq,nBq,nCq];refine plan_look (v:=.bool ek) rfl rfl (fun w0 hS=>(by clear hS;go_simp;try rfl)) ?_;simp only[Act.put,nAq,nBq,nCq];refine AZ ?_;simp only[List.drop_succ_cons,List.drop_zero];go_wp2;refine NoPanic.normal ?_;cases ek with
   | false =>
    go_wp2;refine AP (fun _=>True) 20 [(0,false),(1,false),(2,false),(3,false),(4,false),(7,false),(8,false),(11,false),(5,false),(6,false),(9,false),(10,false),(12,false),(13,false),(14,false),(15,false),(16,false),(17,true),(18,false),(19,true)] (by kernel_rfl) (by kernel_rfl) ?_ ?_
    · trivial
    iterate 2
     iterate 1 refine plan_look rfl rfl (fun w0 hS=>(by go_simp;try rfl)) ?_
     simp only[Act.put,nAq,nBq,nCq]
    iterate 5
     refine BN rfl (by rfl) ?_;simp only[Act.put,nAq,nBq,nCq]
    iterate 1 refine plan_look rfl rfl (fun w0 hS=>(by go_simp;try rfl)) ?_
    simp only[Act.put,nAq,nBq,nCq]
    iterate 3
     refine BN rfl (by rfl) ?_;simp only[Act.put,nAq,nBq,nCq]
    refine plan_look (v:=.bool false) rfl rfl (fun w0 hS=>(by go_simp;try rfl)) ?_;simp only[Act.put,nAq,nBq,nCq]
    iterate 2
     iterate 1 refine plan_look rfl rfl (fun w0 hS=>(by go_simp;try rfl)) ?_
     simp only[Act.put,nAq,nBq,nCq]
    refine plan_look (v:=.bool true) rfl rfl (fun w0 hS=>(by go_simp;try rfl)) ?_;simp only[Act.put,nAq,nBq,nCq];refine plan_look (v:=.bool true) rfl rfl (fun w0 hS=>(by go_simp;try rfl)) ?_;simp only[Act.put,nAq,nBq,nCq]
    iterate 1 refine plan_look rfl rfl (fun w0 hS=>(by go_simp;try rfl)) ?_
    simp only[Act.put,nAq,nBq,nCq];have q2:=AH H4.out.1 (i:=2) rfl;have q3:=AH H4.out.1 (i:=3) rfl;have f2:=Ai H4.out.1 2;have f3:=Ai H4.out.1 3;refine AW rfl ?_;go_wp2;refine⟨trivial,?_⟩;iterate 1 refine plan_look rfl rfl (fun w0 hS=>(by go_simp;try rfl)) ?_;simp only[Act.put,nAq,nBq,nCq];refine AW rfl ?_;go_wp2;refine⟨trivial,?_⟩;refine AZ ?_;simp only[List.drop_succ_cons,List.drop_zero];go_wp2;refine NoPanic.normal ?_;obtain⟨w9,hw9⟩:∃w9,w9=((w4.setCell ⟨w.heap.size+1,2,none⟩ (.bool false)).setCell ⟨w.heap.size+1,3,none⟩ (.bool true)).drew:=⟨_,rfl⟩;rw[←hw9];have H9:RowKit.Hid (FindAt w w9 ao cap l e1 K false true):=Lib.hid (by rw[hw9];exact(H4.out.done false true).drew);have r9:=H9.out.1;clear hw9 q2 q3 f2 f3;go_wp2_with (first|fail|((with_reducible show zOq (.load 220 _));refine AJ rfl 220 _ rfl (w.heap.size+1) 0 rfl r9 Tryz.underlying220 rfl EW (by simp) #[.slice ao l.length cap,.int .i64 e1,.bool false,.bool true] (by simp) ?_)|((with_reducible show zOq (.store 220 _ _));refine AI rfl 220 _ _ rfl (w.heap.size+1) 0 #[.slice ao l.length cap,.int .i64 e1,.bool false,.bool true] rfl rfl r9 EW (by simp) (by simp[Value.oneCell']) #[.slice ao l.length cap,.int .i64 e1,.bool false,.bool true] (by simp[splice]) ?_));exact Af (p:=8) (cs:=#[.slice ao l.length cap,.int .i64 e1,.bool false,.bool true]) rfl rfl (AK r9 _) Tryz.underlying220 rfl (by rw[EW];rfl) rfl ⟨.slice ao l.length cap,(by simp ),((Ch.refl (fun k=>k=w.heap.size+1) w9).setRow (.inl rfl) _).owns H9.out.2.2.2.1 (fun k hk hkk=>by have:=H9.out.2.2.2.2 k hk;omega),H9.out.2.2.1.setRow (.inr (Nat.le_succ _)) _⟩
   | true =>
    obtain⟨same,hsame⟩:∃x,x=decide (vl=bs):=⟨_,rfl⟩
    have HSM:=Lib.hid hsame;clear hsame;go_wp2;refine AP (fun w0=>∃x y,FindAt w w0 ao cap l e1 K x y) 20 [(0,false),(1,false),(2,false),(3,false),(4,false),(7,false),(8,false),(11,false),(5,true),(12,false),(13,false),(14,false),(15,false),(6,true),(9,false),(10,false),(16,false),(17,true),(18,false),(19,true)] (by kernel_rfl) (by kernel_rfl) ?_ ?_
    · exact⟨_,_,H4.out.drew⟩
    iterate 4
     iterate 1 refine plan_look rfl rfl (fun w0 hS=>(by go_simp;try rfl)) ?_
     simp only[Act.put,nAq,nBq,nCq]
    refine plan_look (v:=.int .i64 e1) rfl rfl (fun w0 hS=>(by obtain⟨x,y,hS⟩:=hS;have q1:=AH hS.1 (i:=1) rfl;clear hS;go_simp;try rfl)) ?_;simp only[Act.put,nAq,nBq,nCq]
    iterate 1 refine plan_look rfl rfl (fun w0 hS=>(by go_simp;try rfl)) ?_
    simp only[Act.put,nAq,nBq,nCq];refine DW rfl rfl 29 9 (.tmp 42) (.string (GF bs)) rfl vv rfl (fun w0 ⟨x,y,hS⟩=>Cb (HB.out.Ae hS.2.2.1 (fun _ _ h=>h))) ?_;simp only[Act.put,nAq,nBq,nCq]
    iterate 1 refine plan_look rfl rfl (fun w0 hS=>(by go_simp;try rfl)) ?_
    simp only[Act.put,nAq,nBq,nCq];refine AW rfl ?_;go_wp2_with fail;refine(HV.out _ H4.out.drew.2.2.1).mono ?_;rintro e w5 ⟨v5,rfl,hb5,_,a5⟩;have H5:RowKit.Hid (FindAt w w5 ao cap l e1 K false false):=Lib.hid (H4.out.drew.adds a5);have hc5:=Cb hb5;clear a5 hb5;dsimp only;go_step;refine wpList_nil ?_;change _∧_;refine⟨⟨_,_,H5.out⟩,?_⟩
    iterate 3
     iterate 1 refine plan_look rfl rfl (fun w0 hS=>(by go_simp;try rfl)) ?_
     simp only[Act.put,nAq,nBq,nCq]
    refine plan_look (v:=.bool false) rfl rfl (fun w0 hS=>(by go_simp;try rfl)) ?_;simp only[Act.put,nAq,nBq,nCq];refine AW rfl ?_;go_wp2;refine⟨⟨_,_,H5.out⟩,?_⟩;refine plan_look (v:=.bool same) rfl rfl (fun w0 hS=>(by clear hS;go_simp;rw[HSM.out];exact ME vl bs)) ?_;simp only[Act.put,nAq,nBq,nCq];refine plan_look (v:=.bool same) rfl rfl (fun w0 hS=>(by go_simp;try rfl)) ?_;simp only[Act.put,nAq,nBq,nCq]
    iterate 1 refine plan_look rfl rfl (fun w0 hS=>(by go_simp;try rfl)) ?_
    simp only[Act.put,nAq,nBq,nCq];have q2:=AH H5.out.1 (i:=2) rfl;have q3:=AH H5.out.1 (i:=3) rfl;have f2:=Ai H5.out.1 2;have f3:=Ai H5.out.1 3;refine AW rfl ?_;go_wp2;refine⟨⟨_,_,H5.out.Wf same⟩,?_⟩;iterate 1 refine plan_look rfl rfl (fun w0 hS=>(by go_simp;try rfl)) ?_;simp only[Act.put,nAq,nBq,nCq];refine AW rfl ?_;go_wp2;refine⟨⟨_,_,H5.out.done same false⟩,?_⟩;refine AZ ?_;simp only[List.drop_succ_cons,List.drop_zero];go_wp2;refine NoPanic.normal ?_;obtain⟨w9,hw9⟩:∃w9,w9=((w5.setCell ⟨w.heap.size+1,2,none⟩ (.bool same)).setCell ⟨w.heap.size+1,3,none⟩ (.bool false)):=⟨_,rfl⟩;rw[←hw9];have H9:RowKit.Hid (FindAt w w9 ao cap l e1 K same false):=Lib.hid (by rw[hw9];exact(H5.out.done same false));have r9:=H9.out.1;clear hw9 q2 q3 f2 f3;go_wp2_with (first|fail|((with_reducible show zOq (.load 220 _));refine AJ rfl 220 _ rfl (w.heap.size+1) 0 rfl r9 Tryz.underlying220 rfl EW (by simp) #[.slice ao l.length cap,.int .i64 e1,.bool same,.bool false] (by simp) ?_)|((with_reducible show zOq (.store 220 _ _));refine AI rfl 220 _ _ rfl (w.heap.size+1) 0 #[.slice ao l.length cap,.int .i64 e1,.bool same,.bool false] rfl rfl r9 EW (by simp) (by simp[Value.oneCell']) #[.slice ao l.length cap,.int .i64 e1,.bool same,.bool false] (by simp[splice]) ?_));exact Af (p:=8) (cs:=#[.slice ao l.length cap,.int .i64 e1,.bool same,.bool false]) rfl rfl (AK r9 _) Tryz.underlying220 rfl (by rw[EW];rfl) rfl ⟨.slice ao l.length cap,(by simp[HSM.out]),((Ch.refl (fun k=>k=w.heap.size+1) w9).setRow (.inl rfl) _).owns H9.out.2.2.2.1 (fun k hk hkk=>by have:=H9.out.2.2.2.2 k hk;omega),H9.out.2.2.1.setRow (.inr (Nat.le_succ _)) _⟩
 have e1':((kd:Int) == 1)=false:=by simpa using (show ¬(kd:Int)=1 by omega)
 have e2':decide ((kd:Int)=1)=false:=decide_eq_false (by omega);have e3':decide (kd=1)=false:=decide_eq_false hk1;clear hk1;go_wp2;refine AP (fun _=>True) 9 [(0,false),(1,false),(2,false),(3,false),(4,false),(5,false),(6,false),(7,false),(8,false)] (by kernel_rfl) (by kernel_rfl) ?_ ?_
 · trivial
 iterate 1 refine plan_look rfl rfl (fun w0 hS=>(by go_simp;try rfl)) ?_
 simp only[Act.put,nAq,nBq,nCq]
 iterate 1 refine plan_look rfl rfl (fun w0 hS=>(by go_simp;try rfl)) ?_
 simp only[Act.put,nAq,nBq,nCq]
 iterate 6
  refine BN rfl (by rfl) ?_;simp only[Act.put,nAq,nBq,nCq]
 refine plan_look (v:=.bool false) rfl rfl (fun w0 hS=>(by go_simp;try rfl)) ?_;simp only[Act.put,nAq,nBq,nCq];refine AZ ?_;simp only[List.drop_succ_cons,List.drop_zero];go_wp2;refine NoPanic.normal ?_;go_wp2;refine AP (fun _=>True) 20 [(0,false),(1,false),(2,false),(3,false),(4,false),(7,false),(8,false),(11,false),(5,false),(6,false),(9,false),(10,false),(12,false),(13,false),(14,false),(15,false),(16,false),(17,true),(18,false),(19,true)] (by kernel_rfl) (by kernel_rfl) ?_ ?_
 · trivial
 iterate 1 refine plan_look rfl rfl (fun w0 hS=>(by go_simp;try rfl)) ?_
 simp only[Act.put,nAq,nBq,nCq]
 iterate 1 refine plan_look rfl rfl (fun w0 hS=>(by go_simp;try rfl)) ?_
 simp only[Act.put,nAq,nBq,nCq]
 iterate 5
  refine BN rfl (by rfl) ?_;simp only[Act.put,nAq,nBq,nCq]
 iterate 1 refine plan_look rfl rfl (fun w0 hS=>(by go_simp;try rfl)) ?_
 simp only[Act.put,nAq,nBq,nCq]
 iterate 3
  refine BN rfl (by rfl) ?_;simp only[Act.put,nAq,nBq,nCq]
 refine plan_look (v:=.bool false) rfl rfl (fun w0 hS=>(by go_simp;try rfl)) ?_;simp only[Act.put,nAq,nBq,nCq]
 iterate 1 refine plan_look rfl rfl (fun w0 hS=>(by go_simp;try rfl)) ?_
 simp only[Act.put,nAq,nBq,nCq]
 iterate 2
  refine BN rfl (by rfl) ?_;simp only[Act.put,nAq,nBq,nCq]
 refine plan_look (v:=.bool false) rfl rfl (fun w0 hS=>(by go_simp;try rfl)) ?_;simp only[Act.put,nAq,nBq,nCq]
 iterate 1 refine plan_look rfl rfl (fun w0 hS=>(by go_simp;try rfl)) ?_
 simp only[Act.put,nAq,nBq,nCq];have q2:=AH H3.out.1 (i:=2) rfl;have q3:=AH H3.out.1 (i:=3) rfl;have f2:=Ai H3.out.1 2;have f3:=Ai H3.out.1 3;refine AW rfl ?_;go_wp2;refine⟨trivial,?_⟩;iterate 1 refine plan_look rfl rfl (fun w0 hS=>(by go_simp;try rfl)) ?_;simp only[Act.put,nAq,nBq,nCq];refine AW rfl ?_;go_wp2;refine⟨trivial,?_⟩;refine AZ ?_;simp only[List.drop_succ_cons,List.drop_zero];go_wp2;refine NoPanic.normal ?_;obtain⟨w9,hw9⟩:∃w9,w9=((w3.setCell ⟨w.heap.size+1,2,none⟩ (.bool false)).setCell ⟨w.heap.size+1,3,none⟩ (.bool false)).drew.drew:=⟨_,rfl⟩;rw[←hw9];have H9:RowKit.Hid (FindAt w w9 ao cap l e1 K false false):=Lib.hid (by rw[hw9];exact(H3.out.done false false).drew.drew);have r9:=H9.out.1;clear hw9 q2 q3 f2 f3;go_wp2_with (first|fail|((with_reducible show zOq (.load 220 _));refine AJ rfl 220 _ rfl (w.heap.size+1) 0 rfl r9 Tryz.underlying220 rfl EW (by simp) #[.slice ao l.length cap,.int .i64 e1,.bool false,.bool false] (by simp) ?_)|((with_reducible show zOq (.store 220 _ _));refine AI rfl 220 _ _ rfl (w.heap.size+1) 0 #[.slice ao l.length cap,.int .i64 e1,.bool false,.bool false] rfl rfl r9 EW (by simp) (by simp[Value.oneCell']) #[.slice ao l.length cap,.int .i64 e1,.bool false,.bool false] (by simp[splice]) ?_));exact Af (p:=8) (cs:=#[.slice ao l.length cap,.int .i64 e1,.bool false,.bool false]) rfl rfl (AK r9 _) Tryz.underlying220 rfl (by rw[EW];rfl) rfl ⟨.slice ao l.length cap,(by simp[e3']),((Ch.refl (fun k=>k=w.heap.size+1) w9).setRow (.inl rfl) _).owns H9.out.2.2.2.1 (fun k hk hkk=>by have:=H9.out.2.2.2.2 k hk;omega),H9.out.2.2.1.setRow (.inr (Nat.le_succ _)) _⟩
end
end Go.Proofs.YtngbdbpofifimaaGreat.Store

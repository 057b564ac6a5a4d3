/- Laws of the layers below. -/
import Derived.Test.YtooijgcildbnlaaGreatQi37
set_option maxHeartbeats 3200000
set_option maxRecDepth 100000
set_option linter.unusedVariables false
namespace Go.Proofs.YtooijgcildbnlaaGreat.Law15
open Go.RowKit Go.Sort Go.Proofs.YtooijgcildbnlaaGreat.ShaW Go.Proofs.YtooijgcildbnlaaGreat.Path Go.Proofs.YtooijgcildbnlaaGreat.Store Go.Proofs.YtooijgcildbnlaaGreat.BC Go.Proofs.YtooijgcildbnlaaGreat.Law14
section
variable {w0 w w' : World} {d v s room tn : Nat} {G : Nat→Prop} {σ σ' : AA Nd} {root r : Int} {L L' : AN} {M M' : Nmd} {x : List UInt8}
def Vk (w0 w:World) (d v s:Nat) (G:Nat→Prop) (room:Nat) (σ:AA Nd) (root:Int) (L:AN) (M:Nmd) (tn:Nat) (x:List UInt8) (e:Ending) (w':World):Prop :=
 ∃σ' M' er,e=.returned (.int .i64 er)∧Mid w0 w w' d v s G room σ σ' M' ((root,L)::GL M') (tn+1)∧((x∈DB M∧er=6∧M'=M)∨(x∉DB M∧er=0∧M'=(x,root,L)::M))
theorem Dct.XV (h:Dct w0 w d v s G room σ root L M tn) (hx:x.length≤maxLen) (h1:CX x=true) (h2:M.length<16) (htn:tn≤500000000) :
 Calls Tryz.prog 117 #[.pointer (some ⟨v,0,none⟩),.string (BP x),.int .i64 root] w (Vk w0 w d v s G room σ root L M tn x):=by
 have ht:=h.total;have hre:=Lm h.rts (p:=(root,L)) (List.mem_cons_self ..);by_cases hm:x∈DB M
 · have hc:EJ σ (Dp M) x root=6:=by
    unfold EJ;rw[Bu,if_neg (by rw[h1];decide),if_neg (by rw[hre];simp),if_pos hm]
   have:=h.vs.Xk hx root (by rw[hc];decide);rw[hc] at this;exact this.mono fun e w' ⟨he,ha⟩=>⟨σ,M,6,he,⟨h.vs.adds ha,Adds.but ha,h.rts,h.room,Nat.le_succ_of_le h.total,Nat.le_refl _⟩,.inl ⟨hm,rfl,rfl⟩⟩
 have hc:EJ σ (Dp M) x root=0:=by
  unfold EJ;rw[Bu,Ej,if_neg (by rw[h1];decide),if_neg (by rw[hre];simp),if_neg hm,if_neg (by omega)]
 have hset:(Dp M).set x root=Dp ((x,root,L)::M):=by
  unfold Nms.set;rw[Nms.OO (by rw[Bu];exact hm)];rfl
 have hwf:=Ud h.rts (p:=(root,L)) (List.mem_cons_self ..) h.slots;by_cases h0:root=0
 · have:=h.vs.add hx hc (fun hr=>absurd h0 hr) hwf
   rw[hset,show Ix σ root=σ by unfold Ix;rw[if_pos h0]] at this;exact this.mono fun e w' ⟨he,hv,hb⟩=>⟨σ,_,0,he,⟨hv,hb,(Ju h.rts (p:=(root,L)) (List.mem_cons_self ..) h0),h.room,Nat.le_succ_of_le h.total,Nat.le_refl _⟩,.inr ⟨hm,rfl,rfl⟩⟩
 have hh:=h.rts.hold h0 (by omega);have:=h.vs.add hx hc (fun _=>hh.1) hwf;rw[hset,show Ix σ root=(Ay σ root).2 by unfold Ix;rw[if_neg h0]] at this;exact this.mono fun e w' ⟨he,hv,hb⟩=>⟨_,_,0,he,⟨hv,hb,hh.2.1,hh.2.2.2.2.trans h.room,by rw[hh.2.2.2.1];omega,Nat.le_of_eq hh.2.2.1⟩,.inr ⟨hm,rfl,rfl⟩⟩
theorem U5 (h:Dct w0 w d v s G room σ root L M tn):Calls Tryz.prog 116 #[.pointer (some ⟨d,0,none⟩)] w fun e w'=>e=.returned (.int .i64 (if 16≤M.length then 8 else 0))∧w=w':=by
 have hl:=h.vs.len;have c0:w.cell? ⟨d,0,none⟩=some (.pointer (some ⟨v,0,none⟩)):=AF h.cell rfl;rw[Ej] at hl;obtain⟨n,hn⟩:∃n,n=M.length:=⟨_,rfl⟩
 rw[←hn] at hl ⊢;have HL:=Lib.hid hl;clear hl h hn;by_cases h16:16≤n
 · have hx:(16:Int)≤(n:Int):=by omega
   have hx1:decide ((16:Int)≤(n:Int))=true:=decide_eq_true hx;have hx2:decide (16≤n)=true:=decide_eq_true h16;rw[if_pos h16];go_enter Tryz.func116,Tryz.ntmps116;go_wp2_with fail;refine HL.out.mono ?_;rintro e w1 ⟨rfl,rfl⟩;go_wp2;go_ret;exact⟨rfl,rfl⟩
 have hx:¬(16:Int)≤(n:Int):=by omega
 have hx1:decide ((16:Int)≤(n:Int))=false:=decide_eq_false hx;have hx2:decide (16≤n)=false:=decide_eq_false h16;rw[if_neg h16];go_enter Tryz.func116,Tryz.ntmps116;go_wp2_with fail;refine HL.out.mono ?_;rintro e w1 ⟨rfl,rfl⟩;go_wp2;go_ret;exact⟨rfl,rfl⟩
theorem Cd (hx:x.length≤maxLen) {b:Nat} (hb:w.cell? ⟨b,0,none⟩=some (.string (BP x))):Calls Tryz.prog 113 #[.pointer (some ⟨b,0,none⟩)] w fun e w'=>e=.returned (.int .i64 (if CX x=false then 5 else 0))∧w=w':=by
 have hn:=NR x hx w;obtain⟨S,hS⟩:∃S,S=BP x:=⟨_,rfl⟩
 rw[←hS] at hb hn;have HN:=Lib.hid hn;clear hn hS;cases hnb:CX x with
 | true =>
  rw[hnb] at HN;rw[if_neg (by decide)];clear hnb;go_enter Tryz.func113,Tryz.ntmps113;go_wp2_with fail;refine HN.out.mono ?_;rintro e w1 ⟨rfl,rfl⟩;go_wp2;go_ret;exact⟨rfl,rfl⟩
 | false =>
  rw[hnb] at HN;rw[if_pos rfl];clear hnb;go_enter Tryz.func113,Tryz.ntmps113;go_wp2_with fail;refine HN.out.mono ?_;rintro e w1 ⟨rfl,rfl⟩;go_wp2;go_ret;exact⟨rfl,rfl⟩
def Eo (M:Nmd) (x:List UInt8):Int:=if CX x=false then 5 else if 16≤M.length then 8 else 0
theorem Pc (h:Dct w0 w d v s G room σ root L M tn) (hx:x.length≤maxLen) {b c:Nat} (hb:w.cell? ⟨b,0,none⟩=some (.string (BP x))) {T:TypeId}
 (hc:w.heap[c]?=some (.cells #[.func (.func 105) #[.pointer (some ⟨d,0,none⟩)] #[],.func (.func 113) #[] #[.pointer (some ⟨b,0,none⟩)],.func (.func 116) #[.pointer (some ⟨d,0,none⟩)] #[]] T (0,0))) :
 Calls Tryz.prog 115 #[.slice (some ⟨c,0,none⟩) 3 3] w fun e w'=>e=.returned (.int .i64 (Eo M x))∧w=w':=by
 have h1:=Mz h;have h2:=Cd hx hb;have h3:=U5 h;have c0:=AF hc (i:=0) rfl;have c1:=AF hc (i:=1) rfl;have c2:=AF hc (i:=2) rfl;obtain⟨e2,he2⟩:∃e:Int,e=(if CX x=false then 5 else 0):=⟨_,rfl⟩
 obtain⟨e3,he3⟩:∃e:Int,e=(if 16≤M.length then 8 else 0):=⟨_,rfl⟩
 have hce:Eo M x=if e2≠0 then e2 else e3:=by
  unfold Eo;rw[he2,he3];by_cases hn:CX x=false
  · rw[if_pos hn,if_pos hn,if_pos (by decide)]
  rw[if_neg hn,if_neg hn,if_neg (c:=(0:Int)≠0) (by decide)]
 rw[←he2] at h2;rw[←he3] at h3;have HC:=(hIq h1 (aIq h2 h3))
 have HE:=Lib.hid hce;clear h1 h2 h3 h hb hc he2 he3 hce;go_enter Tryz.func115,Tryz.ntmps115;go_wp2_with fail;go_loopg [4,5,8] 3 (fun g s4 s5 s8 wr=>∃k:Nat,s8=.int .i64 k∧k+g=3∧(2≤k→e2=0)∧(3≤k→e3=0)∧w=wr)
 case atStart=>exact⟨0,rfl,rfl,fun h=>absurd h (by decide),fun h=>absurd h (by decide),rfl⟩
 obtain⟨k,rfl,hk,q2,q3,rfl⟩:=hrel;have HK:=(hIq hk (aIq q2 q3))
 obtain rfl|rfl|rfl|rfl:k=0∨k=1∨k=2∨k=3:=by omega
 · clear hk q2 q3
   go_wp2_with fail;refine HC.out.1.mono ?_;rintro e w1 ⟨rfl,rfl⟩;go_wp2_with fail;go_roundg (gk-1)
   case measure=>have:=HK.out.1;omega
   exact⟨1,by first|rfl|(simp;done),by have:=HK.out.1;omega,fun h=>absurd h (by decide),fun h=>absurd h (by decide),rfl⟩
 · clear hk q2 q3
   by_cases h0:e2=0
   · have H0:=Lib.hid h0
     subst h0;go_wp2_with fail;refine HC.out.2.1.mono ?_;rintro e w1 ⟨rfl,rfl⟩;go_wp2_with fail;go_roundg (gk-1)
     case measure=>have:=HK.out.1;omega
     exact⟨2,by first|rfl|(simp;done),by have:=HK.out.1;omega,fun _=>by first|rfl|trivial,fun h=>absurd h (by decide),rfl⟩
   go_wp2_with fail;refine HC.out.2.1.mono ?_;rintro e w1 ⟨rfl,rfl⟩;go_wp2;go_ret;exact⟨by rw[HE.out,if_pos h0];rfl,rfl⟩
 · clear hk q2 q3
   by_cases h0:e3=0
   · have H0:=Lib.hid h0
     subst h0;go_wp2_with fail;refine HC.out.2.2.mono ?_;rintro e w1 ⟨rfl,rfl⟩;go_wp2_with fail;go_roundg (gk-1)
     case measure=>have:=HK.out.1;omega
     exact⟨3,by first|rfl|(simp;done),by have:=HK.out.1;omega,fun _=>HK.out.2.1 (by decide),fun _=>by first|rfl|trivial,rfl⟩
   have H0:=Lib.hid h0;go_wp2_with fail;refine HC.out.2.2.mono ?_;rintro e w1 ⟨rfl,rfl⟩;go_wp2;go_ret;exact⟨by rw[HE.out,if_neg (fun h=>h (HK.out.2.1 (by decide)))];rfl,rfl⟩
 clear hk q2 q3;go_wp2;go_ret;exact⟨by rw[HE.out,if_neg (fun h=>h (HK.out.2.1 (by decide))),HK.out.2.2 (by decide)];rfl,rfl⟩
theorem Dct.more (h:Dct w0 w d v s G room σ root L M tn) (a:Adds w w') {b:Nat} (hb:w.heap.size≤b∧b<w'.heap.size):Dct w0 w' d v s (fun k=>G k∨k=b) room σ root L M tn:=by
 have hd:=Al h.cell;refine⟨a.row h.cell id,h.vs.more a (fun k hk=>?_),h.rts,h.room,h.total,h.base.1,fun hk=>hk.elim h.base.2 (fun e=>by omega)⟩;rcases hk with hk|hk|hk
 · exact .inl (.inl hk)
 · exact .inl (.inr hk)
 exact .inr (by rw[hk];exact hb)
def TV (w0 w:World) (d v s:Nat) (G:Nat→Prop) (room:Nat) (σ:AA Nd) (root:Int) (L:AN) (M:Nmd) (tn:Nat) (x:List UInt8) (e:Ending) (w':World):Prop :=
 ∃σ' M' er,e=.returned (.int .i64 er)∧DStep w0 w w' d v s G room σ σ' root L M' tn 0∧((Eo M x≠0∧er=Eo M x∧M'=M)∨(Eo M x=0∧x∈DB M∧er=6∧M'=M)∨(Eo M x=0∧x∉DB M∧er=0∧M'=(x,root,L)::M))
theorem M0 (h:Dct w0 w d v s G room σ root L M tn) (hx:x.length≤maxLen) (htn:tn≤400000000):Calls Tryz.prog 42 #[.pointer (some ⟨d,0,none⟩),.string (BP x)] w (TV w0 w d v s G room σ root L M tn x):=by
 have hc:=fun w1 (a:Adds w w1) b c T hb hc=>Pc (h.adds a) hx (b:=b) (c:=c) (T:=T) hb hc
 have had:=fun w1 (a:Adds w w1) b hb (h1:CX x=true) (h2:M.length<16)=>(h.more a (b:=b) hb).XV hx h1 h2 (by omega)
 obtain⟨S,hS⟩:∃S,S=BP x:=⟨_,rfl⟩
 rw[←hS] at hc had ⊢;have HC:=(hIq hc had)
 have HH:=Lib.hid h;clear hc had h hS;have hmf:=@Ln;obtain⟨ck,hck⟩:∃ck,ck=Eo M x:=⟨_,rfl⟩
 rw[←hck] at HC;have HCK:=Lib.hid hck;clear hck;go_enter Tryz.func42,Tryz.ntmps42
 obtain⟨i0,z0,p1,p2,p3⟩:∃i z,Tryz.prog.info? 189=some i∧i.zero=some z∧i.size=1:=by
  obtain⟨i,h1,h2,h3,h4⟩:=info_parts (P:=Tryz.prog) (e:=189) (z:=.nilFunc) (size:=1) (bytes:=8) (by kernel_rfl);exact⟨i,_,h1,h2,h3⟩
 have HI:=(hIq p1 (aIq p2 p3))
 clear p1 p2 p3;go_upto_region 2 with fail;refine Cc (fun w1 hw1=>?_);have a1:Adds w w1:=by rw[hw1];exact(Ch.refl _ _).alloc _
 have r1:w1.heap[w.heap.size]?=some (.cells #[.string S] 9 (0,0)):=by rw[hw1];exact heap_alloc_new _ _
 have A1:=(hIq a1 r1)
 clear a1 r1 hw1
 go_wp2_with (first
  | fail
  | ((with_reducible show zOq (.buildSlice 295 _ _));refine LN rfl 295 _ _ _ rfl 189 i0 z0 (.func (.func 105) #[.pointer (some ⟨d,0,none⟩)] #[]) (.func (.func 113) #[] #[.pointer (some ⟨w.heap.size,0,none⟩)]) (.func (.func 116) #[.pointer (some ⟨d,0,none⟩)] #[]) rfl rfl rfl Tryz.underlying295 HI.out.1 HI.out.2.1 (by rw[HI.out.2.2];decide) (by rw[HI.out.2.2];decide) (by rw[HI.out.2.2];rfl) (by rw[HI.out.2.2];rfl) (by rw[HI.out.2.2];rfl) ?_;simp only[Value.cells,List.append_toArray,List.cons_append,List.nil_append]))
 obtain⟨w2,hw2⟩:∃w2,w2=w1.alloc (.cells #[.func (.func 105) #[.pointer (some ⟨d,0,none⟩)] #[],.func (.func 113) #[] #[.pointer (some ⟨w.heap.size,0,none⟩)],.func (.func 116) #[.pointer (some ⟨d,0,none⟩)] #[]] 189):=⟨_,rfl⟩
 rw[←hw2];have a2:Adds w1 w2:=by rw[hw2];exact(Ch.refl _ _).alloc _
 have r2:=a2.row A1.out.2 id;have r3:w2.heap[w1.heap.size]?=some (.cells #[.func (.func 105) #[.pointer (some ⟨d,0,none⟩)] #[],.func (.func 113) #[] #[.pointer (some ⟨w.heap.size,0,none⟩)],.func (.func 116) #[.pointer (some ⟨d,0,none⟩)] #[]] 189 (0,0)):=by rw[hw2];exact heap_alloc_new _ _
 have A2:=(hIq (A1.out.1.trans a2 (fun _=>fEq)) (aIq r2 r3))
 clear a2 r2 r3 hw2;refine(HC.out.1 _ A2.out.1 _ _ _ (AF A2.out.2.1 rfl) A2.out.2.2).mono ?_;rintro e w3 ⟨rfl,rfl⟩;by_cases h0:ck=0
 · have hnb:CX x=true∧M.length<16:=by
    have h2:=HCK.out;rw[h0] at h2;unfold Eo at h2;by_cases hn:CX x=false
    · rw[if_pos hn] at h2;cases h2
    rw[if_neg hn] at h2;by_cases hm:16≤M.length
    · rw[if_pos hm] at h2;cases h2
    exact⟨by simpa using hn,by omega⟩
   have had:=HC.out.2 _ A2.out.1.drew w.heap.size ⟨Nat.le_refl _,Al (AQ A2.out.2.1)⟩ hnb.1 hnb.2;have hd2:=(HH.out.adds A2.out.1).cell;have H2:=(hIq had (aIq hd2 h0))
   subst h0;clear hnb had hd2;go_wp2;refine AO (fun w0=>w0.heap[d]?=some (.cells (OE v s root) 97 (0,0))∧w0.heap[w.heap.size]?=some (.cells #[.string S] 9 (0,0))) 12 [(0,false),(1,false),(2,false),(3,false),(4,false),(5,false),(6,false),(7,false),(8,false),(9,false),(10,true),(11,false)] (by kernel_rfl) (by kernel_rfl) ?_ ?_
   · exact⟨AQ H2.out.2.1,AQ A2.out.2.1⟩
   iterate 4
    iterate 1 refine plan_look rfl rfl (fun w0 hS=>(by go_simp;try rfl)) ?_
    simp only[Act.put,nAq,nBq,nCq]
   refine plan_look (v:=.pointer (some ⟨v,0,none⟩)) rfl rfl (fun w0 hS=>(by have e0:w0.cell? ⟨d,0,none⟩=some (.pointer (some ⟨v,0,none⟩)):=AF hS.1 rfl;clear hS;go_simp;try rfl)) ?_;simp only[Act.put,nAq,nBq,nCq];refine plan_look (v:=.string S) rfl rfl (fun w0 hS=>(by have e0:w0.cell? ⟨w.heap.size,0,none⟩=some (.string S):=AF hS.2 rfl;clear hS;go_simp;try rfl)) ?_;simp only[Act.put,nAq,nBq,nCq]
   iterate 3
    iterate 1 refine plan_look rfl rfl (fun w0 hS=>(by go_simp;try rfl)) ?_
    simp only[Act.put,nAq,nBq,nCq]
   refine plan_look (v:=.int .i64 root) rfl rfl (fun w0 hS=>(by have e0:w0.cell? ⟨d,2,none⟩=some (.int .i64 root):=AF hS.1 rfl;clear hS;go_simp;try rfl)) ?_;simp only[Act.put,nAq,nBq,nCq];refine AY rfl ?_;go_wp2_with fail;refine H2.out.1.mono ?_;rintro e w4 ⟨σ',M',er,rfl,hmid,hcs⟩;have r4:=hmid.but.row (AQ H2.out.2.1) (.inl rfl);have k4:=hmid.but.row (AQ A2.out.2.1) (.inr (.inr rfl));have H4:=(hIq hmid (aIq hcs (aIq r4 k4)))
   clear hmid hcs r4 k4;dsimp only;go_step;refine wpList_nil ?_;change _∧_;refine⟨H4.out.2.2,?_⟩;refine plan_look rfl rfl (fun w0 hS=>(by clear hS;go_simp;try rfl)) ?_;simp only[Act.put,nAq,nBq,nCq];refine Ae ?_;simp only[List.drop_succ_cons,List.drop_zero];go_wp2;refine NoPanic.normal ?_;go_wp2;go_ret;refine⟨σ',M',er,rfl,⟨⟨H4.out.2.2.1,H4.out.1.vs.less (fun _ h=>h.imp id .inl),H4.out.1.rts,H4.out.1.room,by have:=H4.out.1.total;omega,HH.out.base⟩,(Adds.but A2.out.1.drew).then (H4.out.1.but.less (fun _ h=>.inr (.inl h))),H4.out.1.live⟩,?_⟩;have h5:Eo M x=0:=by rw[←HCK.out]
   rcases H4.out.2.1 with⟨q1,q2,q3⟩|⟨q1,q2,q3⟩
   · exact .inr (.inl ⟨h5,q1,q2,q3⟩)
   exact .inr (.inr ⟨h5,q1,q2,q3⟩)
 go_wp2;go_ret;exact⟨σ,M,ck,rfl,HH.out.stay A2.out.1 0,.inl ⟨by rw[←HCK.out];exact h0,HCK.out,rfl⟩⟩
end
section
variable {w0 w w' : World} {d v s room tn : Nat} {G : Nat→Prop} {σ σ' : AA Nd} {root r : Int} {L L' : AN} {M M' : Nmd} {x : List UInt8}
theorem MB (h:Dct w0 w d v s G room σ root L M tn) (hl:M.length≤65536):Calls Tryz.prog 41 #[.pointer (some ⟨d,0,none⟩)] w fun e w'=>∃q,e=.returned q∧w'.ownsRow w.heap.size 9 1 q M.length ((EK (Dp M)).map encStr)∧Adds w w':=by
 have hdn:=Ep h;have hn:=h.vs.UA (by rw[Ej];exact hl);rw[Ej] at hn;have c0:w.cell? ⟨d,0,none⟩=some (.pointer (some ⟨v,0,none⟩)):=AF h.cell rfl;have HN:=(hIq hdn hn)
 clear hdn hn h;go_enter Tryz.func41,Tryz.ntmps41;go_wp2_with fail;refine HN.out.1.mono ?_;rintro e w1 ⟨rfl,rfl⟩;go_wp2_with fail;refine HN.out.2.mono ?_;rintro e w1 ⟨q,rfl,hq,ha⟩;have H1:=(hIq hq ha)
 clear hq ha c0;go_wp2;go_ret;exact⟨q,rfl,H1.out.1,H1.out.2⟩
theorem I3 (h:Dct w0 w d v s G room σ root L M tn):Calls Tryz.prog 48 #[.pointer (some ⟨d,0,none⟩)] w fun e w'=>e=.returned (.int .i64 (Store.live σ:Nat))∧w=w':=by
 have hdn:=Ep h;obtain⟨F,hF⟩:=h.at;have hn:=Gl hF;rw[h.rts.good.used] at hn;have c1:w.cell? ⟨d,1,none⟩=some (.pointer (some ⟨s,0,none⟩)):=AF h.cell rfl;obtain⟨n,hn'⟩:∃n,n=Store.live σ:=⟨_,rfl⟩
 rw[←hn'] at hn ⊢;have HN:=(hIq hdn hn)
 clear hdn hn h hF hn';go_enter Tryz.func48,Tryz.ntmps48;go_wp2_with fail;refine HN.out.1.mono ?_;rintro e w1 ⟨rfl,rfl⟩;go_wp2_with fail;refine HN.out.2.mono ?_;rintro e w1 ⟨rfl,rfl⟩;go_wp2;go_ret;exact⟨rfl,rfl⟩
theorem SC (h:Dct w0 w d v s G room σ root L M tn):Calls Tryz.prog 50 #[.pointer (some ⟨d,0,none⟩)] w fun e w'=>e=.returned (.pointer (some ⟨s,0,none⟩))∧w=w':=by
 have hdn:=Ep h;have c1:w.cell? ⟨d,1,none⟩=some (.pointer (some ⟨s,0,none⟩)):=AF h.cell rfl;have HN:=Lib.hid hdn;clear hdn h;go_enter Tryz.func50,Tryz.ntmps50;go_wp2_with fail;refine HN.out.mono ?_;rintro e w1 ⟨rfl,rfl⟩;go_wp2;go_ret;exact⟨rfl,rfl⟩
def Ve (w:World) (n:Nat) (e:Ending) (w':World):Prop:=∃d v s,e=.returned (.tuple #[.pointer (some ⟨d,0,none⟩),.int .i64 0])∧Dct w w' d v s (fun _=>False) n ⟨n,[],[]⟩ 0 [] [] 0
theorem Vq (n:Nat) (w:World) (h1:1≤n) (h2:n≤65536):Calls Tryz.prog 33 #[.int .i64 n] w (Ve w n):=by
 have HN:=Lib.hid (Store.Lg n w h1 h2);have H1:=(hIq h1 h2)
 clear h1 h2;go_enter Tryz.func33,Tryz.ntmps33;go_wp2_with fail;refine HN.out.mono ?_;rintro e w1 ⟨s,F,rfl,hA,hF,hc⟩;have ho:Ow w w1 s ⟨n,[],[]⟩ (fun _=>False):=⟨F,hA,hF,hc,fun _ h=>h.elim⟩
 have HO:=(hIq (V7 ho H1.out.1) hc)
 clear ho hA hF hc;go_wp2_with fail;refine HO.out.1.mono ?_;rintro e w2 ⟨v,rfl,hv,a2,hge⟩;have H2:=(hIq hv (aIq a2 hge))
 clear hv a2 hge
 go_wp2_with (first
  | fail
  | ((with_reducible show zOq (.build 95 _));refine JY rfl 95 0 _ rfl (.pointer (some ⟨v,0,none⟩)) rfl #[.pointer (some ⟨v,0,none⟩)] (by kernel_rfl) ?_)
  | ((with_reducible show zOq (.build 97 _));refine Eh rfl 97 0 1 2 _ _ _ rfl (.agg #[.pointer (some ⟨v,0,none⟩)]) (.pointer (some ⟨s,0,none⟩)) (.int .i64 0) rfl rfl rfl #[.pointer (some ⟨v,0,none⟩),.pointer (some ⟨s,0,none⟩),.int .i64 0] (by kernel_rfl) ?_))
 go_ret2;have hz:(w2.alloc (.cells #[.pointer (some ⟨v,0,none⟩),.pointer (some ⟨s,0,none⟩),.int .i64 0] 97)).heap.size=w2.heap.size+1:=by simp
 refine⟨w2.heap.size,v,s,rfl,heap_alloc_new _ _,H2.out.1.more ((Ch.refl _ _).alloc _) (fun k hk=>hk.elim (fun e=>.inr ⟨Nat.le_of_eq e.symm,by omega⟩) (fun h=>h.elim)),(Roots.new n H1.out.1 H1.out.2).zero,rfl,Nat.le_refl _,?_,fun h=>h.elim⟩;have h1:=HO.out.2.size;have h2:=H2.out.2.1.size;omega
end
section
variable {w0 w w' : World} {s : Nat} {F : Nat→Prop} {σ : AA Nd} {root : Int} {L : AN} {key : List UInt8}
def Xn (w:World) (L:AN) (key:List UInt8) (e:Ending) (w':World):Prop :=
 Adds w w'∧((key∉keysOf L∧e=.returned (.tuple #[.slice none 0 0,.bool false,.int .i64 0]))∨(∃bs v,(key,bs)∈L∧e=.returned (.tuple #[v,.bool true,.int .i64 0])∧Bytes w' v bs∧∀k,v.ownBlock=some k→w.heap.size≤k∧k<w'.heap.size))
end
def ON (root:Int) (L:AN) (M:Nmd) (x:List UInt8) (hh er:Int) (Lx:AN):Prop:=(x = []∧hh=root∧er=0∧Lx=L)∨(x ≠ []∧x∉DB M∧hh=0∧er=7∧Lx = [])∨(x ≠ []∧er=0∧∃p∈M,p.1=x∧hh=p.2.1∧Lx=p.2.2)
section
variable {w0 w w' : World} {d v s room tn : Nat} {G : Nat→Prop} {σ σ' : AA Nd} {root r : Int} {L L' : AN} {M M' : Nmd} {x key : List UInt8}
theorem Hdl.pick {hh er:Int} (h:Hdl root M x hh er) (L:AN):∃Lx,ON root L M x hh er Lx:=by
 rcases h with⟨h1,h2,h3⟩|⟨h1,h2,h3,h4⟩|⟨h1,h2,p,hp,h3,h4⟩
 · exact⟨L,.inl ⟨h1,h2,h3,rfl⟩⟩
 · exact⟨[],.inr (.inl ⟨h1,h2,h3,h4,rfl⟩)⟩
 exact⟨p.2.2,.inr (.inr ⟨h1,h2,p,hp,h3,h4,rfl⟩)⟩
theorem ON.mem {hh er:Int} {Lx:AN} (h:ON root L M x hh er Lx) (h0:er=0):(hh,Lx)∈(root,L)::GL M:=by
 rcases h with⟨_,rfl,_,rfl⟩|⟨_,_,_,e,_⟩|⟨_,_,p,hp,_,rfl,rfl⟩
 · exact List.mem_cons_self ..
 · rw[e] at h0;cases h0
 exact List.mem_cons_of_mem _ (List.mem_map_of_mem (f:=fun p:List UInt8×Int×AN=>(p.2.1,p.2.2)) hp)
def YP (w:World) (root:Int) (L:AN) (M:Nmd) (x key:List UInt8) (e:Ending) (w':World):Prop :=
 Adds w w'∧∃v is er,e=.returned (.tuple #[v,.bool is,.int .i64 er])∧((key.length≠32∧er=3∧is=false∧v=.slice none 0 0)∨(key.length=32∧∃hh he Lx,ON root L M x hh he Lx∧((he≠0∧er=he∧is=false∧v=.slice none 0 0) ∨
  (he=0∧er=0∧((is=false∧key∉keysOf Lx∧v=.slice none 0 0)∨(is=true∧∃bs,(key,bs)∈Lx∧Bytes w' v bs∧∀k,v.ownBlock=some k→w.heap.size≤k∧k<w'.heap.size))))))
end
section
variable {w0 w w' : World} {d v s room tn : Nat} {G : Nat→Prop} {σ σ' : AA Nd} {root r : Int} {L L' : AN} {M M' : Nmd} {R : List (Int×AN)} {key bs : List UInt8}
def DN (σ:AA Nd) (bs:List UInt8):Int:=if 1024<bs.length then 4 else if Cj σ 1=true then 0 else 9
theorem Vh (h:Ow w0 w s σ G) (D:Roots σ ((root,L)::R)) (hk:key.length=32) {vv:Value} (hb:Bytes w vv bs) (hv:bs ≠ []→∀k,vv.ownBlock=some k→k<w.heap.size) (htot:Store.total σ+600<1073741824) :
 Calls Tryz.prog 109 #[.pointer (some ⟨s,0,none⟩),.int .i64 root,.agg (AJ key),vv] w fun e w'=>∃r σ',e=.returned (.tuple #[.int .i64 r,.int .i64 (DN σ bs)])∧Ow w0 w' s σ' G∧But G w w' ∧
  ((DN σ bs≠0∧σ'=σ)∨(DN σ bs=0∧WroteR σ σ' root r 258 600∧Roots σ' ((r,upd L key bs)::R))):=by
 obtain⟨F,hAt⟩:=h.at;have hh:=(D.db (p:=(root,L)) (List.mem_cons_self ..)).hand;by_cases hl:1024<bs.length
 · have e:DN σ bs=4:=by unfold DN;rw[if_pos hl]
   obtain⟨ao,cap,rfl,_,_⟩:=hb.form;rw[e];exact(Tp hAt root (AJ key) ao bs.length cap hl).mono fun e w' ⟨he,ha⟩=>⟨0,σ,he,h.adds ha,Adds.but ha,.inl ⟨by decide,rfl⟩⟩
 cases hf:Cj σ 1 with
 | true =>
  have e:DN σ bs=0:=by unfold DN;rw[if_neg hl,hf];rfl
  rw[e]
  have hr:Store.live σ+258≤σ.room:=by
   rw[Hk,D.good.used] at hf;exact of_decide_eq_true hf
  exact(SI h D hk hb hv (by omega) hr htot).mono fun e w' ⟨r,σ',he,ho,hb,hw,hr,_⟩=>⟨r,σ',he,ho,hb,.inr ⟨rfl,hw,hr⟩⟩
 | false =>
  have e:DN σ bs=9:=by unfold DN;rw[if_neg hl,hf];rfl
  rw[e];exact(Th hAt root key hb (by omega) hh hf).mono fun e w' ⟨he,ha⟩=>⟨0,σ,he,h.adds ha,Adds.but ha,.inl ⟨by decide,rfl⟩⟩
def FB (σ:AA Nd) (key bs:List UInt8):Int:=if key.length=32 then DN σ bs else 3
noncomputable def QZ (σ:AA Nd) (L:AN) (key bs:List UInt8):AN:=if FB σ key bs=0 then upd L key bs else L
theorem VI (h:Dct w0 w d v s G room σ root L M tn) {kv vv:Value} (hk:Bytes w kv key) (hb:Bytes w vv bs) (hv:bs ≠ []→∀k,vv.ownBlock=some k→k<w.heap.size) (htn:tn≤500000000) :
 Calls Tryz.prog 39 #[.pointer (some ⟨d,0,none⟩),kv,vv] w fun e w'=>e=.returned (.int .i64 (FB σ key bs)) ∧
  ∃σ' r,DStep w0 w w' d v s G room σ σ' r (QZ σ L key bs) M tn 258:=by
 have hn:=Kk h hk;obtain⟨K,hK⟩:∃K,K=AJ (C6 key):=⟨_,rfl⟩
 have hks:K.size=32:=by rw[hK,AM,DU]
 have hk1:∀v∈K.toList,v.oneCell'=true:=by rw[hK];exact Ak _
 rw[←hK] at hn;obtain⟨Z,hZ⟩:∃Z,Z=AJ (List.replicate 32 0):=⟨_,rfl⟩
 have hzd:=E5;have hZs:Z.size=32:=by rw[hZ];rfl
 rw[←hZ] at hzd;have HZ:=(hIq hzd (aIq hZs (aIq hks hk1)))
 have HK:=Lib.hid hK;have HN:=Lib.hid hn;have HH:=(hIq h (aIq hb (aIq hv htn)))
 clear hzd hZs hZ hn hks hk1 hK hk hb hv htn;by_cases h32:key.length=32
 · have e3:DT key=0:=by unfold DT;rw[if_pos h32]
   rw[e3] at HN;have e4:C6 key=key:=by unfold C6;rw[if_pos h32]
   have HE:=(hIq h32 e4)
   clear e3 e4 h32 h;go_enter Tryz.func39,Tryz.ntmps39;go_wp2_with fail;refine HN.out.mono ?_;rintro e w1 ⟨rfl,a1⟩;have A1:=Lib.hid a1;clear a1
   go_upto_region 4 with(first
    | fail
    | ((with_reducible show zOq (.alloc 24));refine AG rfl 24 rfl (.agg Z) HZ.out.1 ?_;dsimp only[Value.cells];try simp only[World.size_alloc])
    | ((with_reducible show zOq (.store 24 _ _));refine AB rfl 24 _ _ rfl w1.heap.size 0 K rfl rfl (heap_alloc_new _ _) (by rw[AT,HZ.out.2.2.1]) (by rw[HZ.out.2.1,HZ.out.2.2.1];exact Nat.le_of_eq (Nat.zero_add _)) HZ.out.2.2.2 K (by rw[AI _ _ (by rw[Array.length_toList,Array.length_toList,HZ.out.2.1,HZ.out.2.2.1])]) ?_))
   refine Cc (fun w2 hw2=>?_);have a2:Adds w w2:=by rw[hw2];exact(A1.out.alloc _).setRow (.inr A1.out.size) _
   have r2:w2.heap[w1.heap.size]?=some (.cells K 24 (0,0)):=by rw[hw2];exact AD (heap_alloc_new w1 (.cells Z 24)) K
   have d2:=(HH.out.1.adds a2).cell;obtain⟨m,ho,hst⟩:=HH.out.1.vs.step;have ho2:=ho.more (w':=w2.drew) (a2.drew) (G':=fun k=>Fl v m (fun k=>k=d∨G k) k∨k=w1.heap.size) (fun k hk=>hk.imp id (fun e=>by rw[e];exact⟨A1.out.size,Al r2⟩));have hput:=Vh (key:=C6 key) ho2 HH.out.1.rts (DU key) (HH.out.2.1.AZ a2.drew (fun _ _ h=>h)) (fun h0 k hk=>Nat.lt_of_lt_of_le (HH.out.2.2.1 h0 k hk) a2.size) (by have:=HH.out.1.total;have:=HH.out.2.2.2;omega);rw[←HK.out] at hput;obtain⟨pe,hpe⟩:∃pe,pe=DN σ bs:=⟨_,rfl⟩
   rw[←hpe] at hput;have HPE:=Lib.hid hpe;have H2:=(hIq a2 (aIq r2 d2))
   have HP:=(hIq hput (@hst))
   clear a2 r2 d2 ho hst ho2 hput hw2 hpe;go_wp2;refine AO (fun w0=>w0.heap[d]?=some (.cells (OE v s root) 97 (0,0))∧w0.heap[w1.heap.size]?=some (.cells K 24 (0,0))) 16 [(0,false),(1,false),(2,false),(3,false),(4,false),(5,false),(6,false),(7,false),(8,false),(9,false),(10,true),(11,false),(12,false),(13,false),(14,false),(15,false)] (by kernel_rfl) (by kernel_rfl) ?_ ?_
   · exact⟨AQ H2.out.2.2,AQ H2.out.2.1⟩
   iterate 3
    iterate 1 refine plan_look rfl rfl (fun w0 hS=>(by go_simp;try rfl)) ?_
    simp only[Act.put,nAq,nBq,nCq]
   refine plan_look (v:=.pointer (some ⟨s,0,none⟩)) rfl rfl (fun w0 hS=>(by have e0:w0.cell? ⟨d,1,none⟩=some (.pointer (some ⟨s,0,none⟩)):=AF hS.1 rfl;clear hS;go_simp;try rfl)) ?_;simp only[Act.put,nAq,nBq,nCq]
   iterate 3
    iterate 1 refine plan_look rfl rfl (fun w0 hS=>(by go_simp;try rfl)) ?_
    simp only[Act.put,nAq,nBq,nCq]
   refine plan_look (v:=.int .i64 root) rfl rfl (fun w0 hS=>(by have e0:w0.cell? ⟨d,2,none⟩=some (.int .i64 root):=AF hS.1 rfl;clear hS;go_simp;try rfl)) ?_;simp only[Act.put,nAq,nBq,nCq];refine Ai (cur:=K) (t:=24) (fr:=(0,0)) rfl rfl 24 _ rfl w1.heap.size 0 32 rfl (fun w0 hS=>hS.2) Tryz.underlying24 rfl AT (by rw[HZ.out.2.2.1];exact Nat.le_of_eq (Nat.zero_add _)) K (by have:=HZ.out.2.2.1;simp[←this]) ?_;simp only[Act.put,nAq,nBq,nCq]
   iterate 1 refine plan_look rfl rfl (fun w0 hS=>(by go_simp;try rfl)) ?_
   simp only[Act.put,nAq,nBq,nCq];refine AY rfl ?_;go_wp2_with fail;refine HP.out.1.mono ?_;rintro e w3 ⟨r,σ',rfl,o3,b3,hc3⟩;have hb3:=(Adds.but (G:=Fl v m (fun k=>k=d∨G k)) H2.out.1.drew).then (b3.less (fun _ h=>.inl h));obtain⟨v3,c3⟩:=HP.out.2 (o3.less (fun _ h=>.inl h)) hb3;have r3:=c3.row HH.out.1.cell (.inl rfl);have k3:=b3.row (AQ H2.out.2.1) (.inr rfl);have H3:=(hIq v3 (aIq c3 (aIq hc3 (aIq r3 k3))))
   clear o3 b3 hc3 hb3 v3 c3 r3 k3;dsimp only;go_step;refine wpList_nil ?_;change _∧_;refine⟨⟨H3.out.2.2.2.1,H3.out.2.2.2.2⟩,?_⟩
   iterate 5
    refine plan_look rfl rfl (fun w0 hS=>(by clear hS;go_simp;try rfl)) ?_;simp only[Act.put,nAq,nBq,nCq]
   refine Ae ?_;simp only[List.drop_succ_cons,List.drop_zero];go_wp2;refine NoPanic.normal ?_;by_cases h0:pe=0
   · have f3:=Ag H3.out.2.2.2.1 2
     have l3:=Al H3.out.2.2.2.1;have c3:w3.cell? ⟨d,2,none⟩=some (.int .i64 root):=AF H3.out.2.2.2.1 rfl;have HP0:=(hIq HPE.out h0)
     subst h0;clear HPE;go_wp2;go_ret;obtain⟨_,hw,hr⟩:=H3.out.2.2.1.resolve_left (fun h=>h.1 rfl);rw[HE.out.2] at hr;have hdw:=Dct.write (tn:=tn+60000) H3.out.2.2.2.1 H3.out.1 hr (hw.room.trans HH.out.1.room) (by have:=hw.total;have:=HH.out.1.total;omega) HH.out.1.base;have he:FB σ key bs=0:=by unfold FB;rw[if_pos HE.out.1];exact HP0.out.1.symm
     refine⟨by rw[he];rfl,σ',r,?_⟩;unfold QZ;rw[if_pos he];exact⟨hdw.1,(H3.out.2.1.less (fun _ h=>.inr h)).then hdw.2,by have:=hw.live;omega⟩
   have HP0:=(hIq HPE.out h0)
   clear HPE;go_wp2;go_ret;obtain⟨_,rfl⟩:=H3.out.2.2.1.resolve_right (fun h=>HP0.out.2 h.1);have he:FB σ' key bs=pe:=by unfold FB;rw[if_pos HE.out.1];exact HP0.out.1.symm
   refine⟨by rw[he];rfl,σ',root,?_⟩;unfold QZ;rw[if_neg (by rw[he];exact HP0.out.2)];exact⟨(⟨H3.out.2.2.2.1,H3.out.1,HH.out.1.rts,HH.out.1.room,HH.out.1.total,HH.out.1.base⟩:Dct w0 w3 d v s G room σ' root L M tn).JD (Nat.le_add_right _ _),H3.out.2.1.less (fun _ h=>.inr h),Nat.le_add_right _ _⟩
 have e3:DT key=3:=by unfold DT;rw[if_neg h32]
 rw[e3] at HN;have HE:=Lib.hid h32;clear e3 h32 h;go_enter Tryz.func39,Tryz.ntmps39;go_wp2_with fail;refine HN.out.mono ?_;rintro e w1 ⟨rfl,a1⟩;have A1:=Lib.hid a1;clear a1
 go_wp2_with (first
  | fail
  | ((with_reducible show zOq (.alloc 24));refine AG rfl 24 rfl (.agg Z) HZ.out.1 ?_;dsimp only[Value.cells];try simp only[World.size_alloc])
  | ((with_reducible show zOq (.store 24 _ _));refine AB rfl 24 _ _ rfl w1.heap.size 0 K rfl rfl (heap_alloc_new _ _) (by rw[AT,HZ.out.2.2.1]) (by rw[HZ.out.2.1,HZ.out.2.2.1];exact Nat.le_of_eq (Nat.zero_add _)) HZ.out.2.2.2 K (by rw[AI _ _ (by rw[Array.length_toList,Array.length_toList,HZ.out.2.1,HZ.out.2.2.1])]) ?_))
 go_ret;have he:FB σ key bs=3:=by unfold FB;rw[if_neg HE.out]
 refine⟨by rw[he];rfl,σ,root,?_⟩;unfold QZ;rw[if_neg (by rw[he];decide)];exact HH.out.1.stay ((A1.out.alloc _).setRow (.inr A1.out.size) _) _
end
end Go.Proofs.YtooijgcildbnlaaGreat.Law15

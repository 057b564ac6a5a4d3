/- Laws of the layers below. -/
import Derived.Test.YtngbdbpofifimaaGreatQl37
set_option maxHeartbeats 3200000
set_option maxRecDepth 100000
set_option linter.unusedVariables false
namespace Go.Proofs.YtngbdbpofifimaaGreat.Law15
open Go.RowKit Go.Sort Go.Proofs.YtngbdbpofifimaaGreat.ShaW Go.Proofs.YtngbdbpofifimaaGreat.Path Go.Proofs.YtngbdbpofifimaaGreat.Store Go.Proofs.YtngbdbpofifimaaGreat.Law9 Go.Proofs.YtngbdbpofifimaaGreat.Law14
section
variable {w0 w w' : World} {d v s room tn : Nat} {G : Nat→Prop} {σ σ' : AD Nd} {root r : Int} {L L' : AS} {M M' : Nmd} {x : List UInt8}
def YG (w0 w:World) (d v s:Nat) (G:Nat→Prop) (room:Nat) (σ:AD Nd) (root:Int) (L:AS) (M:Nmd) (tn:Nat) (x:List UInt8) (e:Ending) (w':World):Prop :=
 ∃σ' M' er,e=.returned (.int .i64 er)∧Mid w0 w w' d v s G room σ σ' M' ((root,L)::JY M') (tn+1)∧((x∈EL M∧er=6∧M'=M)∨(x∉EL M∧er=0∧M'=(x,root,L)::M))
theorem Dct.Y9 (h:Dct w0 w d v s G room σ root L M tn) (hx:x.length≤maxLen) (h1:DP x=true) (h2:M.length<16) (htn:tn≤500000000) :
 Calls Tryz.prog 145 #[.pointer (some ⟨v,0,none⟩),.string (BP x),.int .i64 root] w (YG w0 w d v s G room σ root L M tn x):=by
 have ht:=h.total;have hre:=Mj h.rts (p:=(root,L)) (List.mem_cons_self ..);by_cases hm:x∈EL M
 · have hc:Ep σ (En M) x root=6:=by
    unfold Ep;rw[CR,if_neg (by rw[h1];decide),if_neg (by rw[hre];simp),if_pos hm]
   have:=h.vs.aJ hx root (by rw[hc];decide);rw[hc] at this;exact this.mono fun e w' ⟨he,ha⟩=>⟨σ,M,6,he,⟨h.vs.adds ha,Adds.but ha,h.rts,h.room,Nat.le_succ_of_le h.total,Nat.le_refl _⟩,.inl ⟨hm,rfl,rfl⟩⟩
 have hc:Ep σ (En M) x root=0:=by
  unfold Ep;rw[CR,GW,if_neg (by rw[h1];decide),if_neg (by rw[hre];simp),if_neg hm,if_neg (by omega)]
 have hset:(En M).set x root=En ((x,root,L)::M):=by
  unfold Nms.set;rw[Nms.QJ (by rw[CR];exact hm)];rfl
 have hwf:=Vu h.rts (p:=(root,L)) (List.mem_cons_self ..) h.slots;by_cases h0:root=0
 · have:=h.vs.add hx hc (fun hr=>absurd h0 hr) hwf
   rw[hset,show Jn σ root=σ by unfold Jn;rw[if_pos h0]] at this;exact this.mono fun e w' ⟨he,hv,hb⟩=>⟨σ,_,0,he,⟨hv,hb,(Ka h.rts (p:=(root,L)) (List.mem_cons_self ..) h0),h.room,Nat.le_succ_of_le h.total,Nat.le_refl _⟩,.inr ⟨hm,rfl,rfl⟩⟩
 have hh:=h.rts.hold h0 (by omega);have:=h.vs.add hx hc (fun _=>hh.1) hwf;rw[hset,show Jn σ root=(BI σ root).2 by unfold Jn;rw[if_neg h0]] at this;exact this.mono fun e w' ⟨he,hv,hb⟩=>⟨_,_,0,he,⟨hv,hb,hh.2.1,hh.2.2.2.2.trans h.room,by rw[hh.2.2.2.1];omega,Nat.le_of_eq hh.2.2.1⟩,.inr ⟨hm,rfl,rfl⟩⟩
theorem Wu (h:Dct w0 w d v s G room σ root L M tn):Calls Tryz.prog 144 #[.pointer (some ⟨d,0,none⟩)] w fun e w'=>e=.returned (.int .i64 (if 16≤M.length then 8 else 0))∧w=w':=by
 have hl:=h.vs.len;have c0:w.cell? ⟨d,0,none⟩=some (.pointer (some ⟨v,0,none⟩)):=AH h.cell rfl;rw[GW] at hl;obtain⟨n,hn⟩:∃n,n=M.length:=⟨_,rfl⟩
 rw[←hn] at hl ⊢;have HL:=Lib.hid hl;clear hl h hn;by_cases h16:16≤n
 · have hx:(16:Int)≤(n:Int):=by omega
   have hx1:decide ((16:Int)≤(n:Int))=true:=decide_eq_true hx;have hx2:decide (16≤n)=true:=decide_eq_true h16;rw[if_pos h16];go_enter Tryz.func144,Tryz.ntmps144;go_wp2_with fail;refine HL.out.mono ?_;rintro e w1 ⟨rfl,rfl⟩;go_wp2;go_ret;exact⟨rfl,rfl⟩
 have hx:¬(16:Int)≤(n:Int):=by omega
 have hx1:decide ((16:Int)≤(n:Int))=false:=decide_eq_false hx;have hx2:decide (16≤n)=false:=decide_eq_false h16;rw[if_neg h16];go_enter Tryz.func144,Tryz.ntmps144;go_wp2_with fail;refine HL.out.mono ?_;rintro e w1 ⟨rfl,rfl⟩;go_wp2;go_ret;exact⟨rfl,rfl⟩
theorem C7 (hx:x.length≤maxLen) {b:Nat} (hb:w.cell? ⟨b,0,none⟩=some (.string (BP x))):Calls Tryz.prog 140 #[.pointer (some ⟨b,0,none⟩)] w fun e w'=>e=.returned (.int .i64 (if DP x=false then 5 else 0))∧w=w':=by
 have hn:=Ob x hx w;obtain⟨S,hS⟩:∃S,S=BP x:=⟨_,rfl⟩
 rw[←hS] at hb hn;have HN:=Lib.hid hn;clear hn hS;cases hnb:DP x with
 | true =>
  rw[hnb] at HN;rw[if_neg (by decide)];clear hnb;go_enter Tryz.func140,Tryz.ntmps140;go_wp2_with fail;refine HN.out.mono ?_;rintro e w1 ⟨rfl,rfl⟩;go_wp2;go_ret;exact⟨rfl,rfl⟩
 | false =>
  rw[hnb] at HN;rw[if_pos rfl];clear hnb;go_enter Tryz.func140,Tryz.ntmps140;go_wp2_with fail;refine HN.out.mono ?_;rintro e w1 ⟨rfl,rfl⟩;go_wp2;go_ret;exact⟨rfl,rfl⟩
def FK (M:Nmd) (x:List UInt8):Int:=if DP x=false then 5 else if 16≤M.length then 8 else 0
theorem RT (h:Dct w0 w d v s G room σ root L M tn) (hx:x.length≤maxLen) {b c:Nat} (hb:w.cell? ⟨b,0,none⟩=some (.string (BP x))) {T:TypeId}
 (hc:w.heap[c]?=some (.cells #[.func (.func 143) #[.pointer (some ⟨d,0,none⟩)] #[],.func (.func 140) #[] #[.pointer (some ⟨b,0,none⟩)],.func (.func 144) #[.pointer (some ⟨d,0,none⟩)] #[]] T (0,0))) :
 Calls Tryz.prog 142 #[.slice (some ⟨c,0,none⟩) 3 3] w fun e w'=>e=.returned (.int .i64 (FK M x))∧w=w':=by
 have h1:=Ny h;have h2:=C7 hx hb;have h3:=Wu h;have c0:=AH hc (i:=0) rfl;have c1:=AH hc (i:=1) rfl;have c2:=AH hc (i:=2) rfl;obtain⟨e2,he2⟩:∃e:Int,e=(if DP x=false then 5 else 0):=⟨_,rfl⟩
 obtain⟨e3,he3⟩:∃e:Int,e=(if 16≤M.length then 8 else 0):=⟨_,rfl⟩
 have hce:FK M x=if e2≠0 then e2 else e3:=by
  unfold FK;rw[he2,he3];by_cases hn:DP x=false
  · rw[if_pos hn,if_pos hn,if_pos (by decide)]
  rw[if_neg hn,if_neg hn,if_neg (c:=(0:Int)≠0) (by decide)]
 rw[←he2] at h2;rw[←he3] at h3;have HC:=(hIq h1 (aIq h2 h3))
 have HE:=Lib.hid hce;clear h1 h2 h3 h hb hc he2 he3 hce;go_enter Tryz.func142,Tryz.ntmps142;go_wp2_with fail;go_loopg [4,5,8] 3 (fun g s4 s5 s8 wr=>∃k:Nat,s8=.int .i64 k∧k+g=3∧(2≤k→e2=0)∧(3≤k→e3=0)∧w=wr)
 case atStart=>exact⟨0,rfl,rfl,fun h=>absurd h (by decide),fun h=>absurd h (by decide),rfl⟩
 obtain⟨k,rfl,hk,q2,q3,rfl⟩:=hrel;have HK:=(hIq hk (aIq q2 q3))
 obtain rfl|rfl|rfl|rfl:k=0∨k=1∨k=2∨k=3:=by omega
 · clear hk q2 q3
   go_wp2_with fail;refine HC.out.1.mono ?_;rintro e w1 ⟨rfl,rfl⟩;go_wp2_with fail;go_roundg (gk-1)
   case measure=>have:=HK.out.1;omega
   exact⟨1,by first|rfl|(simp;done),by have:=HK.out.1;omega,fun h=>absurd h (by decide),fun h=>absurd h (by decide),rfl⟩
 · clear hk q2 q3
   by_cases h0:e2=0
   · have H0:=Lib.hid h0
     subst h0;go_wp2_with fail;refine HC.out.2.1.mono ?_;rintro e w1 ⟨rfl,rfl⟩;go_wp2_with fail;go_roundg (gk-1)
     case measure=>have:=HK.out.1;omega
     exact⟨2,by first|rfl|(simp;done),by have:=HK.out.1;omega,fun _=>by first|rfl|trivial,fun h=>absurd h (by decide),rfl⟩
   go_wp2_with fail;refine HC.out.2.1.mono ?_;rintro e w1 ⟨rfl,rfl⟩;go_wp2;go_ret;exact⟨by rw[HE.out,if_pos h0];rfl,rfl⟩
 · clear hk q2 q3
   by_cases h0:e3=0
   · have H0:=Lib.hid h0
     subst h0;go_wp2_with fail;refine HC.out.2.2.mono ?_;rintro e w1 ⟨rfl,rfl⟩;go_wp2_with fail;go_roundg (gk-1)
     case measure=>have:=HK.out.1;omega
     exact⟨3,by first|rfl|(simp;done),by have:=HK.out.1;omega,fun _=>HK.out.2.1 (by decide),fun _=>by first|rfl|trivial,rfl⟩
   have H0:=Lib.hid h0;go_wp2_with fail;refine HC.out.2.2.mono ?_;rintro e w1 ⟨rfl,rfl⟩;go_wp2;go_ret;exact⟨by rw[HE.out,if_neg (fun h=>h (HK.out.2.1 (by decide)))];rfl,rfl⟩
 clear hk q2 q3;go_wp2;go_ret;exact⟨by rw[HE.out,if_neg (fun h=>h (HK.out.2.1 (by decide))),HK.out.2.2 (by decide)];rfl,rfl⟩
theorem Dct.more (h:Dct w0 w d v s G room σ root L M tn) (a:Adds w w') {b:Nat} (hb:w.heap.size≤b∧b<w'.heap.size):Dct w0 w' d v s (fun k=>G k∨k=b) room σ root L M tn:=by
 have hd:=Ac h.cell;refine⟨a.row h.cell id,h.vs.more a (fun k hk=>?_),h.rts,h.room,h.total,h.base.1,fun hk=>hk.elim h.base.2 (fun e=>by omega)⟩;rcases hk with hk|hk|hk
 · exact .inl (.inl hk)
 · exact .inl (.inr hk)
 exact .inr (by rw[hk];exact hb)
def Vp (w0 w:World) (d v s:Nat) (G:Nat→Prop) (room:Nat) (σ:AD Nd) (root:Int) (L:AS) (M:Nmd) (tn:Nat) (x:List UInt8) (e:Ending) (w':World):Prop :=
 ∃σ' M' er,e=.returned (.int .i64 er)∧DStep w0 w w' d v s G room σ σ' root L M' tn 0∧((FK M x≠0∧er=FK M x∧M'=M)∨(FK M x=0∧x∈EL M∧er=6∧M'=M)∨(FK M x=0∧x∉EL M∧er=0∧M'=(x,root,L)::M))
theorem Oc (h:Dct w0 w d v s G room σ root L M tn) (hx:x.length≤maxLen) (htn:tn≤400000000):Calls Tryz.prog 63 #[.pointer (some ⟨d,0,none⟩),.string (BP x)] w (Vp w0 w d v s G room σ root L M tn x):=by
 have hc:=fun w1 (a:Adds w w1) b c T hb hc=>RT (h.adds a) hx (b:=b) (c:=c) (T:=T) hb hc
 have had:=fun w1 (a:Adds w w1) b hb (h1:DP x=true) (h2:M.length<16)=>(h.more a (b:=b) hb).Y9 hx h1 h2 (by omega)
 obtain⟨S,hS⟩:∃S,S=BP x:=⟨_,rfl⟩
 rw[←hS] at hc had ⊢;have HC:=(hIq hc had)
 have HH:=Lib.hid h;clear hc had h hS;have hmf:=@Mk;obtain⟨ck,hck⟩:∃ck,ck=FK M x:=⟨_,rfl⟩
 rw[←hck] at HC;have HCK:=Lib.hid hck;clear hck;go_enter Tryz.func63,Tryz.ntmps63
 obtain⟨i0,z0,p1,p2,p3⟩:∃i z,Tryz.prog.info? 237=some i∧i.zero=some z∧i.size=1:=by
  obtain⟨i,h1,h2,h3,h4⟩:=info_parts (P:=Tryz.prog) (e:=237) (z:=.nilFunc) (size:=1) (bytes:=8) (by kernel_rfl);exact⟨i,_,h1,h2,h3⟩
 have HI:=(hIq p1 (aIq p2 p3))
 clear p1 p2 p3;go_upto_region 2 with fail;refine BJ (fun w1 hw1=>?_);have a1:Adds w w1:=by rw[hw1];exact(Ch.refl _ _).alloc _
 have r1:w1.heap[w.heap.size]?=some (.cells #[.string S] 9 (0,0)):=by rw[hw1];exact heap_alloc_new _ _
 have A1:=(hIq a1 r1)
 clear a1 r1 hw1
 go_wp2_with (first
  | fail
  | ((with_reducible show zOq (.buildSlice 314 _ _));refine MH rfl 314 _ _ _ rfl 237 i0 z0 (.func (.func 143) #[.pointer (some ⟨d,0,none⟩)] #[]) (.func (.func 140) #[] #[.pointer (some ⟨w.heap.size,0,none⟩)]) (.func (.func 144) #[.pointer (some ⟨d,0,none⟩)] #[]) rfl rfl rfl Tryz.underlying314 HI.out.1 HI.out.2.1 (by rw[HI.out.2.2];decide) (by rw[HI.out.2.2];decide) (by rw[HI.out.2.2];rfl) (by rw[HI.out.2.2];rfl) (by rw[HI.out.2.2];rfl) ?_;simp only[Value.cells,List.append_toArray,List.cons_append,List.nil_append]))
 obtain⟨w2,hw2⟩:∃w2,w2=w1.alloc (.cells #[.func (.func 143) #[.pointer (some ⟨d,0,none⟩)] #[],.func (.func 140) #[] #[.pointer (some ⟨w.heap.size,0,none⟩)],.func (.func 144) #[.pointer (some ⟨d,0,none⟩)] #[]] 237):=⟨_,rfl⟩
 rw[←hw2];have a2:Adds w1 w2:=by rw[hw2];exact(Ch.refl _ _).alloc _
 have r2:=a2.row A1.out.2 id;have r3:w2.heap[w1.heap.size]?=some (.cells #[.func (.func 143) #[.pointer (some ⟨d,0,none⟩)] #[],.func (.func 140) #[] #[.pointer (some ⟨w.heap.size,0,none⟩)],.func (.func 144) #[.pointer (some ⟨d,0,none⟩)] #[]] 237 (0,0)):=by rw[hw2];exact heap_alloc_new _ _
 have A2:=(hIq (A1.out.1.trans a2 (fun _=>fEq)) (aIq r2 r3))
 clear a2 r2 r3 hw2;refine(HC.out.1 _ A2.out.1 _ _ _ (AH A2.out.2.1 rfl) A2.out.2.2).mono ?_;rintro e w3 ⟨rfl,rfl⟩;by_cases h0:ck=0
 · have hnb:DP x=true∧M.length<16:=by
    have h2:=HCK.out;rw[h0] at h2;unfold FK at h2;by_cases hn:DP x=false
    · rw[if_pos hn] at h2;cases h2
    rw[if_neg hn] at h2;by_cases hm:16≤M.length
    · rw[if_pos hm] at h2;cases h2
    exact⟨by simpa using hn,by omega⟩
   have had:=HC.out.2 _ A2.out.1.drew w.heap.size ⟨Nat.le_refl _,Ac (AP A2.out.2.1)⟩ hnb.1 hnb.2;have hd2:=(HH.out.adds A2.out.1).cell;have H2:=(hIq had (aIq hd2 h0))
   subst h0;clear hnb had hd2;go_wp2;refine AO (fun w0=>w0.heap[d]?=some (.cells (Od v s root) 115 (0,0))∧w0.heap[w.heap.size]?=some (.cells #[.string S] 9 (0,0))) 12 [(0,false),(1,false),(2,false),(3,false),(4,false),(5,false),(6,false),(7,false),(8,false),(9,false),(10,true),(11,false)] (by kernel_rfl) (by kernel_rfl) ?_ ?_
   · exact⟨AP H2.out.2.1,AP A2.out.2.1⟩
   iterate 4
    iterate 1 refine plan_look rfl rfl (fun w0 hS=>(by go_simp;try rfl)) ?_
    simp only[Act.put,nAq,nBq,nCq]
   refine plan_look (v:=.pointer (some ⟨v,0,none⟩)) rfl rfl (fun w0 hS=>(by have e0:w0.cell? ⟨d,0,none⟩=some (.pointer (some ⟨v,0,none⟩)):=AH hS.1 rfl;clear hS;go_simp;try rfl)) ?_;simp only[Act.put,nAq,nBq,nCq];refine plan_look (v:=.string S) rfl rfl (fun w0 hS=>(by have e0:w0.cell? ⟨w.heap.size,0,none⟩=some (.string S):=AH hS.2 rfl;clear hS;go_simp;try rfl)) ?_;simp only[Act.put,nAq,nBq,nCq]
   iterate 3
    iterate 1 refine plan_look rfl rfl (fun w0 hS=>(by go_simp;try rfl)) ?_
    simp only[Act.put,nAq,nBq,nCq]
   refine plan_look (v:=.int .i64 root) rfl rfl (fun w0 hS=>(by have e0:w0.cell? ⟨d,2,none⟩=some (.int .i64 root):=AH hS.1 rfl;clear hS;go_simp;try rfl)) ?_;simp only[Act.put,nAq,nBq,nCq];refine AV rfl ?_;go_wp2_with fail;refine H2.out.1.mono ?_;rintro e w4 ⟨σ',M',er,rfl,hmid,hcs⟩;have r4:=hmid.but.row (AP H2.out.2.1) (.inl rfl);have k4:=hmid.but.row (AP A2.out.2.1) (.inr (.inr rfl));have H4:=(hIq hmid (aIq hcs (aIq r4 k4)))
   clear hmid hcs r4 k4;dsimp only;go_step;refine wpList_nil ?_;change _∧_;refine⟨H4.out.2.2,?_⟩;refine plan_look rfl rfl (fun w0 hS=>(by clear hS;go_simp;try rfl)) ?_;simp only[Act.put,nAq,nBq,nCq];refine AZ ?_;simp only[List.drop_succ_cons,List.drop_zero];go_wp2;refine NoPanic.normal ?_;go_wp2;go_ret;refine⟨σ',M',er,rfl,⟨⟨H4.out.2.2.1,H4.out.1.vs.less (fun _ h=>h.imp id .inl),H4.out.1.rts,H4.out.1.room,by have:=H4.out.1.total;omega,HH.out.base⟩,(Adds.but A2.out.1.drew).then (H4.out.1.but.less (fun _ h=>.inr (.inl h))),H4.out.1.live⟩,?_⟩;have h5:FK M x=0:=by rw[←HCK.out]
   rcases H4.out.2.1 with⟨q1,q2,q3⟩|⟨q1,q2,q3⟩
   · exact .inr (.inl ⟨h5,q1,q2,q3⟩)
   exact .inr (.inr ⟨h5,q1,q2,q3⟩)
 go_wp2;go_ret;exact⟨σ,M,ck,rfl,HH.out.stay A2.out.1 0,.inl ⟨by rw[←HCK.out];exact h0,HCK.out,rfl⟩⟩
end
section
variable {w0 w w' : World} {d v s room tn : Nat} {G : Nat→Prop} {σ σ' : AD Nd} {root r : Int} {L L' : AS} {M M' : Nmd} {x : List UInt8}
theorem TF (h:Dct w0 w d v s G room σ root L M tn) (hl:M.length≤65536):Calls Tryz.prog 66 #[.pointer (some ⟨d,0,none⟩)] w fun e w'=>∃q,e=.returned q∧w'.ownsRow w.heap.size 9 1 q M.length ((GX (En M)).map encStr)∧Adds w w':=by
 have hdn:=FB h;have hn:=h.vs.WR (by rw[GW];exact hl);rw[GW] at hn;have c0:w.cell? ⟨d,0,none⟩=some (.pointer (some ⟨v,0,none⟩)):=AH h.cell rfl;have HN:=(hIq hdn hn)
 clear hdn hn h;go_enter Tryz.func66,Tryz.ntmps66;go_wp2_with fail;refine HN.out.1.mono ?_;rintro e w1 ⟨rfl,rfl⟩;go_wp2_with fail;refine HN.out.2.mono ?_;rintro e w1 ⟨q,rfl,hq,ha⟩;have H1:=(hIq hq ha)
 clear hq ha c0;go_wp2;go_ret;exact⟨q,rfl,H1.out.1,H1.out.2⟩
theorem Of (h:Dct w0 w d v s G room σ root L M tn):Calls Tryz.prog 10 #[.pointer (some ⟨d,0,none⟩)] w fun e w'=>e=.returned (.int .i64 (Store.live σ:Nat))∧w=w':=by
 have hdn:=FB h;obtain⟨F,hF⟩:=h.at;have hn:=Kx hF;rw[h.rts.good.used] at hn;have c1:w.cell? ⟨d,1,none⟩=some (.pointer (some ⟨s,0,none⟩)):=AH h.cell rfl;obtain⟨n,hn'⟩:∃n,n=Store.live σ:=⟨_,rfl⟩
 rw[←hn'] at hn ⊢;have HN:=(hIq hdn hn)
 clear hdn hn h hF hn';go_enter Tryz.func10,Tryz.ntmps10;go_wp2_with fail;refine HN.out.1.mono ?_;rintro e w1 ⟨rfl,rfl⟩;go_wp2_with fail;refine HN.out.2.mono ?_;rintro e w1 ⟨rfl,rfl⟩;go_wp2;go_ret;exact⟨rfl,rfl⟩
theorem Tv (h:Dct w0 w d v s G room σ root L M tn):Calls Tryz.prog 68 #[.pointer (some ⟨d,0,none⟩)] w fun e w'=>e=.returned (.pointer (some ⟨s,0,none⟩))∧w=w':=by
 have hdn:=FB h;have c1:w.cell? ⟨d,1,none⟩=some (.pointer (some ⟨s,0,none⟩)):=AH h.cell rfl;have HN:=Lib.hid hdn;clear hdn h;go_enter Tryz.func68,Tryz.ntmps68;go_wp2_with fail;refine HN.out.mono ?_;rintro e w1 ⟨rfl,rfl⟩;go_wp2;go_ret;exact⟨rfl,rfl⟩
def YQ (w:World) (n:Nat) (e:Ending) (w':World):Prop:=∃d v s,e=.returned (.tuple #[.pointer (some ⟨d,0,none⟩),.int .i64 0])∧Dct w w' d v s (fun _=>False) n ⟨n,[],[]⟩ 0 [] [] 0
theorem N3 (n:Nat) (w:World) (h1:1≤n) (h2:n≤65536):Calls Tryz.prog 8 #[.int .i64 n] w (YQ w n):=by
 have HN:=Lib.hid (Store.LR n w h1 h2);have H1:=(hIq h1 h2)
 clear h1 h2;go_enter Tryz.func8,Tryz.ntmps8;go_wp2_with fail;refine HN.out.mono ?_;rintro e w1 ⟨s,F,rfl,hA,hF,hc⟩;have ho:Ow w w1 s ⟨n,[],[]⟩ (fun _=>False):=⟨F,hA,hF,hc,fun _ h=>h.elim⟩
 have HO:=(hIq (XH ho H1.out.1) hc)
 clear ho hA hF hc;go_wp2_with fail;refine HO.out.1.mono ?_;rintro e w2 ⟨v,rfl,hv,a2,hge⟩;have H2:=(hIq hv (aIq a2 hge))
 clear hv a2 hge
 go_wp2_with (first
  | fail
  | ((with_reducible show zOq (.build 113 _));refine KP rfl 113 0 _ rfl (.pointer (some ⟨v,0,none⟩)) rfl #[.pointer (some ⟨v,0,none⟩)] (by kernel_rfl) ?_)
  | ((with_reducible show zOq (.build 115 _));refine CQ rfl 115 0 1 2 _ _ _ rfl (.agg #[.pointer (some ⟨v,0,none⟩)]) (.pointer (some ⟨s,0,none⟩)) (.int .i64 0) rfl rfl rfl #[.pointer (some ⟨v,0,none⟩),.pointer (some ⟨s,0,none⟩),.int .i64 0] (by kernel_rfl) ?_))
 go_ret2;have hz:(w2.alloc (.cells #[.pointer (some ⟨v,0,none⟩),.pointer (some ⟨s,0,none⟩),.int .i64 0] 115)).heap.size=w2.heap.size+1:=by simp
 refine⟨w2.heap.size,v,s,rfl,heap_alloc_new _ _,H2.out.1.more ((Ch.refl _ _).alloc _) (fun k hk=>hk.elim (fun e=>.inr ⟨Nat.le_of_eq e.symm,by omega⟩) (fun h=>h.elim)),(BE.new n H1.out.1 H1.out.2).zero,rfl,Nat.le_refl _,?_,fun h=>h.elim⟩;have h1:=HO.out.2.size;have h2:=H2.out.2.1.size;omega
end
section
variable {w0 w w' : World} {s : Nat} {F : Nat→Prop} {σ : AD Nd} {root : Int} {L : AS} {key : List UInt8}
def Pa (w:World) (L:AS) (key:List UInt8) (e:Ending) (w':World):Prop :=
 Adds w w'∧((key∉keysOf L∧e=.returned (.tuple #[.slice none 0 0,.bool false,.int .i64 0]))∨(∃bs v,(key,bs)∈L∧e=.returned (.tuple #[v,.bool true,.int .i64 0])∧Bytes w' v bs∧∀k,v.ownBlock=some k→w.heap.size≤k∧k<w'.heap.size))
theorem Vy (h:At w s F σ) (D:Db σ root L) (hk:key.length=32) :
 Calls Tryz.prog 120 #[.pointer (some ⟨s,0,none⟩),.int .i64 root,.agg (AK key)] w (Pa w L key):=by
 have hz:=D.good.fit.zero;obtain⟨l,e1,ho⟩:=On.ex (k:=key) D.rep;have hth:=NA D hk ho
 have hval:∀bs,(key,bs)∈L→(nd σ e1).value=bs:=fun bs hm=>by
  obtain⟨x,hx,h1,h2,h3⟩:=On.KN hz 256 (Nat.le_refl _) (AS.Ok.any D.nodup D.len key) hm D.rep ho;rw[Dg hx,h3]
 obtain⟨K,hK⟩:∃K,K=AK key:=⟨_,rfl⟩
 have hKs:K.size=32:=by rw[hK,AN,hk]
 have hha:=fun w1 (a:Adds w w1)=>Fl (h.adds a) D.good root key hk (CI D.hand) ho
 have hkl:=(h.ok e1).key;have heq:=Pt 47 Tryz.underlying47 (nd σ e1).key key hkl hk;have hky:=fun w1 (a:Adds w w1)=>Key_ok (h.adds a) e1
 have hkd:=fun w1 (a:Adds w w1)=>E3 (h.adds a) e1
 have hva:=fun w1 (a:Adds w w1)=>Dh (h.adds a) e1
 obtain⟨kd,hkdd⟩:∃x,x=(nd σ e1).kind:=⟨_,rfl⟩
 obtain⟨eb,heb⟩:∃x,x=decide ((nd σ e1).key=key):=⟨_,rfl⟩
 obtain⟨K2,hK2⟩:∃x,x=AK (nd σ e1).key:=⟨_,rfl⟩
 have htt:Az σ key e1=(decide (kd=1)&&eb):=by unfold Az;rw[←hkdd,heb]
 rw[←heb, ←hK2, ←hK] at heq;rw[←hK2] at hky;rw[←hkdd] at hkd;rw[←hK] at hha ⊢;have HH:=(hIq hha (aIq hkd (aIq hky hva)))
 have HT:=(hIq hth (aIq htt hval))
 have HEQ:=Lib.hid heq;have HK:=Lib.hid hKs;clear hha heq hky hkd hva hKs hK hkl h D ho hth hval hkdd heb hK2 htt hz;go_enter Tryz.func120,Tryz.ntmps120;go_upto_region 1 with fail;refine BJ (fun w1 hw1=>?_);have a1:Adds w w1:=by rw[hw1];exact(Ch.refl _ _).alloc _
 have r1:w1.heap[w.heap.size]?=some (.cells K 47 (0,0)):=by rw[hw1];exact heap_alloc_new _ _
 have A1:=(hIq a1 r1)
 clear a1 r1 hw1
 go_wp2_with (first
  | fail
  | ((with_reducible show zOq (.load 47 _));refine AG rfl 47 _ rfl w.heap.size 0 rfl A1.out.2 Tryz.underlying47 rfl AY (by rw[HK.out];omega) K (by simp[←HK.out]) ?_))
 refine(HH.out.1 _ A1.out.1).mono ?_;rintro e w2 ⟨v2,rfl,_,a2⟩;have A2:=(hIq (A1.out.1.trans a2 (fun _=>fEq)) (a2.row A1.out.2 id))
 clear a2;go_upto_if 33 with fail;go_cut [33] (fun s33 wx=>s33=.bool (!Az σ key e1)∧Adds w wx)
 case first =>
  by_cases hk1:kd=1
  · subst hk1
    have e1':(((1:Nat):Int) != 1)=false:=rfl;have HTH:=Lib.hid (show Az σ key e1=eb by rw[HT.out.2.1];rfl);go_wp2;refine AO (fun w0=>w0.heap[w.heap.size]?=some (.cells K 47 (0,0))∧Adds w w0) 15 [(0,false),(1,false),(2,false),(3,false),(4,false),(5,true),(6,false),(7,false),(8,false),(9,false),(10,false),(12,false),(11,true),(13,false),(14,false)] (by kernel_rfl) (by kernel_rfl) ?_ ?_
    · exact⟨AP A2.out.2,A2.out.1.drew⟩
    iterate 5
     iterate 1 refine plan_look rfl rfl (fun w0 hS=>(by go_simp;try rfl)) ?_
     simp only[Act.put,nAq,nBq,nCq]
    refine AV rfl ?_;go_wp2_with fail;refine(HH.out.2.1 _ A2.out.1.drew).mono ?_;rintro e w3 ⟨rfl,a3⟩;have A3:=(hIq (A2.out.1.drew.trans a3 (fun _=>fEq)) (a3.row (AP A2.out.2) id))
    clear a3;dsimp only;go_step;refine wpList_nil ?_;change _∧_;refine⟨⟨A3.out.2,A3.out.1⟩,?_⟩
    iterate 3
     refine plan_look (v:=.bool false) rfl rfl (fun w0 hS=>(by clear hS;go_simp;try rfl)) ?_;simp only[Act.put,nAq,nBq,nCq]
    iterate 2
     iterate 1 refine plan_look rfl rfl (fun w0 hS=>(by go_simp;try rfl)) ?_
     simp only[Act.put,nAq,nBq,nCq]
    refine Law9.Aw (cur:=K) (t:=47) (fr:=(0,0)) rfl rfl 47 _ rfl w.heap.size 0 32 rfl (fun w0 hS=>hS.1) Tryz.underlying47 rfl AY (by rw[HK.out];omega) K (by have:=HK.out;simp[←this]) ?_;simp only[Act.put,nAq,nBq,nCq];refine AV rfl ?_;go_wp2_with fail;refine(HH.out.2.2.1 _ A3.out.1).mono ?_;rintro e w4 ⟨rfl,a4⟩;have A4:=(hIq (A3.out.1.trans a4 (fun _=>fEq)) (a4.row A3.out.2 id))
    clear a4;dsimp only;go_step;refine wpList_nil ?_;change _∧_;refine⟨⟨A4.out.2,A4.out.1⟩,?_⟩;refine plan_look (v:=.bool !eb) rfl rfl (fun w0 hS=>(by have hq:=HEQ.out w0;rw[run_neq_struct] at hq;clear hS;go_simp)) ?_;simp only[Act.put,nAq,nBq,nCq];refine plan_look (v:=.bool !eb) rfl rfl (fun w0 hS=>(by clear hS;go_simp;try rfl)) ?_;simp only[Act.put,nAq,nBq,nCq];refine AZ ?_;simp only[List.drop_succ_cons,List.drop_zero];go_wp2;refine NoPanic.normal ?_;go_wp2;go_meet;exact⟨by rw[HTH.out],A4.out.1⟩
  have e1':((kd:Int) != 1)=true:=by simpa using (show ¬(kd:Int)=1 by omega)
  have e2':decide ((kd:Int)=1)=false:=decide_eq_false (by omega);have hk1':¬(kd:Int)=1:=by omega
  have HTH:=Lib.hid (show Az σ key e1=false by rw[HT.out.2.1,decide_eq_false hk1];rfl);clear hk1;go_wp2;refine AO (fun w0=>Adds w w0) 15 [(0,false),(1,false),(2,false),(3,false),(4,false),(5,true),(6,false),(7,false),(8,false),(9,false),(10,false),(12,false),(11,false),(13,false),(14,false)] (by kernel_rfl) (by kernel_rfl) ?_ ?_
  · exact A2.out.1.drew
  iterate 5
   iterate 1 refine plan_look rfl rfl (fun w0 hS=>(by go_simp;try rfl)) ?_
   simp only[Act.put,nAq,nBq,nCq]
  refine AV rfl ?_;go_wp2_with fail;refine(HH.out.2.1 _ A2.out.1.drew).mono ?_;rintro e w3 ⟨rfl,a3⟩;have A3:=Lib.hid (A2.out.1.drew.trans a3 (fun _=>fEq));clear a3;dsimp only;go_step;refine wpList_nil ?_;change _∧_;refine⟨A3.out,?_⟩
  iterate 3
   refine plan_look (v:=.bool true) rfl rfl (fun w0 hS=>(by clear hS;go_simp;try rfl)) ?_;simp only[Act.put,nAq,nBq,nCq]
  iterate 5
   refine CL rfl (by rfl) ?_;simp only[Act.put,nAq,nBq,nCq]
  refine plan_look (v:=.bool true) rfl rfl (fun w0 hS=>(by clear hS;go_simp;try rfl)) ?_;simp only[Act.put,nAq,nBq,nCq];refine AZ ?_;simp only[List.drop_succ_cons,List.drop_zero];go_wp2;refine NoPanic.normal ?_;go_wp2;go_meet;exact⟨by rw[HTH.out];rfl,A3.out⟩
 obtain⟨rfl,hA⟩:=hcut;have HA:=Lib.hid hA;cases hts:Az σ key e1 with
 | true =>
  have HIN:=Lib.hid (HT.out.1.1 hts);clear hts hA;go_wp2_with fail;refine(HH.out.2.2.2 _ HA.out).mono ?_;rintro e w3 ⟨v3,rfl,hb3,hn3,a3⟩;have H3:=(hIq hb3 (aIq hn3 (HA.out.trans a3 (fun _=>fEq))))
  have h0:=HA.out.size;have H0:=Lib.hid h0;clear hb3 hn3 a3 h0;go_wp2;go_ret3;refine⟨H3.out.2.2,.inr ?_⟩;obtain⟨q,hq,hqk⟩:=List.mem_map.1 HIN.out;have hm:(key,q.2)∈L:=by rw[←hqk];exact hq
  refine⟨q.2,v3,hm,rfl,by rw[←HT.out.2.2 _ hm];exact H3.out.1,fun k hk=>?_⟩;have h1:=H3.out.2.1 k hk;have h2:=H0.out;omega
 | false =>
  have HNO:RowKit.Hid (key∉keysOf L):=Lib.hid (fun h=>by have:=HT.out.1.2 h;rw[hts] at this;cases this);clear hts hA;go_wp2;go_ret3;exact⟨HA.out,.inl ⟨HNO.out,rfl⟩⟩
end
def Pv (root:Int) (L:AS) (M:Nmd) (x:List UInt8) (hh er:Int) (Lx:AS):Prop:=(x = []∧hh=root∧er=0∧Lx=L)∨(x ≠ []∧x∉EL M∧hh=0∧er=7∧Lx = [])∨(x ≠ []∧er=0∧∃p∈M,p.1=x∧hh=p.2.1∧Lx=p.2.2)
section
variable {w0 w w' : World} {d v s room tn : Nat} {G : Nat→Prop} {σ σ' : AD Nd} {root r : Int} {L L' : AS} {M M' : Nmd} {x key : List UInt8}
theorem Hdl.pick {hh er:Int} (h:Hdl root M x hh er) (L:AS):∃Lx,Pv root L M x hh er Lx:=by
 rcases h with⟨h1,h2,h3⟩|⟨h1,h2,h3,h4⟩|⟨h1,h2,p,hp,h3,h4⟩
 · exact⟨L,.inl ⟨h1,h2,h3,rfl⟩⟩
 · exact⟨[],.inr (.inl ⟨h1,h2,h3,h4,rfl⟩)⟩
 exact⟨p.2.2,.inr (.inr ⟨h1,h2,p,hp,h3,h4,rfl⟩)⟩
theorem Pv.mem {hh er:Int} {Lx:AS} (h:Pv root L M x hh er Lx) (h0:er=0):(hh,Lx)∈(root,L)::JY M:=by
 rcases h with⟨_,rfl,_,rfl⟩|⟨_,_,_,e,_⟩|⟨_,_,p,hp,_,rfl,rfl⟩
 · exact List.mem_cons_self ..
 · rw[e] at h0;cases h0
 exact List.mem_cons_of_mem _ (List.mem_map_of_mem (f:=fun p:List UInt8×Int×AS=>(p.2.1,p.2.2)) hp)
def Xm (w:World) (root:Int) (L:AS) (M:Nmd) (x key:List UInt8) (e:Ending) (w':World):Prop :=
 Adds w w'∧∃v is er,e=.returned (.tuple #[v,.bool is,.int .i64 er])∧((key.length≠32∧er=3∧is=false∧v=.slice none 0 0)∨(key.length=32∧∃hh he Lx,Pv root L M x hh he Lx∧((he≠0∧er=he∧is=false∧v=.slice none 0 0) ∨
  (he=0∧er=0∧((is=false∧key∉keysOf Lx∧v=.slice none 0 0)∨(is=true∧∃bs,(key,bs)∈Lx∧Bytes w' v bs∧∀k,v.ownBlock=some k→w.heap.size≤k∧k<w'.heap.size))))))
theorem XG (h:Dct w0 w d v s G room σ root L M tn) (hx:x.length≤maxLen) {kv:Value} (hk:Bytes w kv key):Calls Tryz.prog 47 #[.pointer (some ⟨d,0,none⟩),.string (BP x),kv] w (Xm w root L M x key):=by
 have hn:=JV h hk;have hhd:=fun w1 (a:Adds w w1)=>FF (h.adds a) hx
 obtain⟨K,hK⟩:∃K,K=AK (Co key):=⟨_,rfl⟩
 have hks:K.size=32:=by rw[hK,AN,Cy]
 have hk1:∀v∈K.toList,v.oneCell'=true:=by rw[hK];exact Ae _
 rw[←hK] at hn;obtain⟨Z,hZ⟩:∃Z,Z=AK (List.replicate 32 0):=⟨_,rfl⟩
 have hzd:=Ef;have hZs:Z.size=32:=by rw[hZ];rfl
 rw[←hZ] at hzd;obtain⟨S,hS⟩:∃S,S=BP x:=⟨_,rfl⟩
 rw[←hS] at hhd ⊢;have HZ:=(hIq hzd (aIq hZs (aIq hks hk1)))
 have HK:=Lib.hid hK;have HN:=(hIq hn hhd)
 have HH:=Lib.hid h;clear hzd hZs hZ hn hks hk1 hK hk hhd hS;by_cases h32:key.length=32
 · have e3:DA key=0:=by unfold DA;rw[if_pos h32]
   rw[e3] at HN;have e4:Co key=key:=by unfold Co;rw[if_pos h32]
   have HE:=(hIq h32 e4)
   clear e3 e4 h32 h;go_enter Tryz.func47,Tryz.ntmps47;go_wp2_with fail;refine HN.out.1.mono ?_;rintro e w1 ⟨rfl,a1⟩;have A1:=Lib.hid a1;clear a1
   go_upto_region 4 with(first
    | fail
    | ((with_reducible show zOq (.alloc 47));refine AI rfl 47 rfl (.agg Z) HZ.out.1 ?_;dsimp only[Value.cells];try simp only[World.size_alloc])
    | ((with_reducible show zOq (.store 47 _ _));refine AE rfl 47 _ _ rfl w1.heap.size 0 K rfl rfl (heap_alloc_new _ _) (by rw[AY,HZ.out.2.2.1]) (by rw[HZ.out.2.1,HZ.out.2.2.1];exact Nat.le_of_eq (Nat.zero_add _)) HZ.out.2.2.2 K (by rw[AJ _ _ (by rw[Array.length_toList,Array.length_toList,HZ.out.2.1,HZ.out.2.2.1])]) ?_))
   refine BJ (fun w2 hw2=>?_);have a2:Adds w w2:=by rw[hw2];exact(A1.out.alloc _).setRow (.inr A1.out.size) _
   have r2:w2.heap[w1.heap.size]?=some (.cells K 47 (0,0)):=by rw[hw2];exact AF (heap_alloc_new w1 (.cells Z 47)) K
   have H2:=(hIq a2 (aIq r2 (HH.out.adds a2).cell))
   clear a2 r2 hw2;go_wp2_with fail;refine(HN.out.2 _ H2.out.1).mono ?_;rintro e w3 ⟨hh,he,rfl,rfl,hd⟩;obtain⟨Lx,hdl⟩:=hd.pick L;have HD:=Lib.hid hdl;clear hd hdl;by_cases h0:he=0
   · have H0:=Lib.hid h0
     have hfd:Calls Tryz.prog 120 #[.pointer (some ⟨s,0,none⟩),.int .i64 hh,.agg K] w2.drew (Pa w2.drew Lx (Co key)):=by
      obtain⟨F,hF⟩:=(HH.out.adds H2.out.1.drew).at;rw[HK.out];exact Vy hF (HH.out.rts.db (HD.out.mem h0)) (Cy key)
     have HF:=Lib.hid hfd;subst h0;clear hfd;go_wp2;refine AO (fun w0=>w0.heap[d]?=some (.cells (Od v s root) 115 (0,0))∧w0.heap[w1.heap.size]?=some (.cells K 47 (0,0))) 13 [(0,false),(1,false),(2,false),(3,false),(4,false),(5,false),(6,true),(7,false),(8,false),(9,false),(10,false),(11,false),(12,false)] (by kernel_rfl) (by kernel_rfl) ?_ ?_
     · exact⟨AP H2.out.2.2,AP H2.out.2.1⟩
     iterate 3
      iterate 1 refine plan_look rfl rfl (fun w0 hS=>(by go_simp;try rfl)) ?_
      simp only[Act.put,nAq,nBq,nCq]
     refine plan_look (v:=.pointer (some ⟨s,0,none⟩)) rfl rfl (fun w0 hS=>(by have e0:w0.cell? ⟨d,1,none⟩=some (.pointer (some ⟨s,0,none⟩)):=AH hS.1 rfl;clear hS;go_simp;try rfl)) ?_;simp only[Act.put,nAq,nBq,nCq]
     iterate 1 refine plan_look rfl rfl (fun w0 hS=>(by go_simp;try rfl)) ?_
     simp only[Act.put,nAq,nBq,nCq];refine Ah (cur:=K) (t:=47) (fr:=(0,0)) rfl rfl 47 _ rfl w1.heap.size 0 32 rfl (fun w0 hS=>hS.2) Tryz.underlying47 rfl AY (by rw[HZ.out.2.2.1];exact Nat.le_of_eq (Nat.zero_add _)) K (by have:=HZ.out.2.2.1;simp[←this]) ?_;simp only[Act.put,nAq,nBq,nCq];refine AV rfl ?_;go_wp2_with fail;refine HF.out.mono ?_;rintro e w3 ⟨a3,hc3⟩;have A3:=(hIq (H2.out.1.drew.trans a3 (fun _=>fEq)) (aIq (a3.row (AP H2.out.2.2) id) (aIq (a3.row (AP H2.out.2.1) id) a3)))
     clear a3;rcases hc3 with⟨hno,rfl⟩|⟨bs,v3,hm,rfl,hb3,hn3⟩
     · have HC3:=Lib.hid hno
       clear hno;dsimp only;go_step;refine wpList_nil ?_;change _∧_;refine⟨⟨A3.out.2.1,A3.out.2.2.1⟩,?_⟩
       iterate 6
        refine plan_look rfl rfl (fun w0 hS=>(by clear hS;go_simp;try rfl)) ?_;simp only[Act.put,nAq,nBq,nCq]
       refine AZ ?_;simp only[List.drop_succ_cons,List.drop_zero];go_wp2;refine NoPanic.normal ?_;go_wp2;go_ret3;exact⟨A3.out.1,.slice none 0 0,false,0,rfl,.inr ⟨HE.out.1,hh,0,Lx,HD.out,.inr ⟨rfl,rfl,.inl ⟨rfl,by rw[←HE.out.2];exact HC3.out,rfl⟩⟩⟩⟩
     have h9:=H2.out.1.size;have HC3:=(hIq hm (aIq hb3 (aIq hn3 h9)))
     clear hm hb3 hn3 h9;dsimp only;go_step;refine wpList_nil ?_;change _∧_;refine⟨⟨A3.out.2.1,A3.out.2.2.1⟩,?_⟩
     iterate 6
      refine plan_look rfl rfl (fun w0 hS=>(by clear hS;go_simp;try rfl)) ?_;simp only[Act.put,nAq,nBq,nCq]
     refine AZ ?_;simp only[List.drop_succ_cons,List.drop_zero];go_wp2;refine NoPanic.normal ?_;go_wp2;go_ret3;refine⟨A3.out.1,v3,true,0,rfl,.inr ⟨HE.out.1,hh,0,Lx,HD.out,.inr ⟨rfl,rfl,.inr ⟨rfl,bs,by rw[←HE.out.2];exact HC3.out.1,HC3.out.2.1,fun k hk=>?_⟩⟩⟩⟩;have h1:=HC3.out.2.2.1 k hk;exact⟨Nat.le_trans HC3.out.2.2.2 h1.1,h1.2⟩
   go_wp2;go_ret3;exact⟨H2.out.1,.slice none 0 0,false,he,rfl,.inr ⟨HE.out.1,hh,he,Lx,HD.out,.inl ⟨h0,rfl,rfl,rfl⟩⟩⟩
 have e3:DA key=3:=by unfold DA;rw[if_neg h32]
 rw[e3] at HN;have HE:=Lib.hid h32;clear e3 h32 h;go_enter Tryz.func47,Tryz.ntmps47;go_wp2_with fail;refine HN.out.1.mono ?_;rintro e w1 ⟨rfl,a1⟩;have A1:=Lib.hid a1;clear a1
 go_wp2_with (first
  | fail
  | ((with_reducible show zOq (.alloc 47));refine AI rfl 47 rfl (.agg Z) HZ.out.1 ?_;dsimp only[Value.cells];try simp only[World.size_alloc])
  | ((with_reducible show zOq (.store 47 _ _));refine AE rfl 47 _ _ rfl w1.heap.size 0 K rfl rfl (heap_alloc_new _ _) (by rw[AY,HZ.out.2.2.1]) (by rw[HZ.out.2.1,HZ.out.2.2.1];exact Nat.le_of_eq (Nat.zero_add _)) HZ.out.2.2.2 K (by rw[AJ _ _ (by rw[Array.length_toList,Array.length_toList,HZ.out.2.1,HZ.out.2.2.1])]) ?_))
 go_ret3;exact⟨(A1.out.alloc _).setRow (.inr A1.out.size) _,.slice none 0 0,false,3,rfl,.inl ⟨HE.out,rfl,rfl,rfl⟩⟩
end
end Go.Proofs.YtngbdbpofifimaaGreat.Law15

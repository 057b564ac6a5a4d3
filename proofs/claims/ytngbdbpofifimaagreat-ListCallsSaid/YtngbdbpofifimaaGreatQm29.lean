/- Laws of the layers below. -/
import Derived.Test.YtngbdbpofifimaaGreatQm28
import Derived.Lib.SliceRun
set_option maxHeartbeats 3200000
set_option maxRecDepth 100000
set_option linter.unusedVariables false
namespace Go.Proofs.YtngbdbpofifimaaGreat.Store
open Go.RowKit Go.Proofs.YtngbdbpofifimaaGreat.ShaW Go.Proofs.YtngbdbpofifimaaGreat.Path
section
variable {w0 w w' : World} {b : Nat} {σ σ' : AG Nd} {ρ : Rs} {F G : Nat→Prop}
def ROw (w0 w:World) (b:Nat) (σ:AG Nd) (G:Nat→Prop):Prop:=∃ρ F,RAt w b F ρ∧Lk σ ρ∧(∀k,F k→w0.heap.size≤k)∧AN w0 w∧∀k,G k→¬F k∧k<w.heap.size
theorem ROw.adds (h:ROw w0 w b σ G) (ha:AN w w'):ROw w0 w' b σ G:=by
 obtain⟨ρ,F,h1,L,h2,h3,h4⟩:=h;exact⟨ρ,F,h1.adds ha,L,h2,h3.trans ha (fun _=>fEq),fun k hk=>⟨(h4 k hk).1,Nat.lt_of_lt_of_le (h4 k hk).2 ha.size⟩⟩
theorem ROw.more (h:ROw w0 w b σ G) (ha:AN w w') {G':Nat→Prop} (hG:∀k,G' k→G k∨(w.heap.size≤k∧k<w'.heap.size)):ROw w0 w' b σ G':=by
 obtain⟨ρ,F,h1,L,h2,h3,h4⟩:=h;have hF:=h1.lt;refine⟨ρ,F,h1.adds ha,L,h2,h3.trans ha (fun _=>fEq),fun k hk=>?_⟩;rcases hG k hk with h|⟨h,h'⟩
 · exact⟨(h4 k h).1,Nat.lt_of_lt_of_le (h4 k h).2 ha.size⟩
 exact⟨fun hf=>by have:=hF k hf;omega,h'⟩
theorem ROw.less {G':Nat→Prop} (h:ROw w0 w b σ G) (hG:∀k,G' k→G k):ROw w0 w b σ G':=by
 obtain⟨ρ,F,h1,L,h2,h3,h4⟩:=h;exact⟨ρ,F,h1,L,h2,h3,fun k hk=>h4 k (hG k hk)⟩
theorem ROw.Fj (h1:RAt w b F ρ) (h2:∀k,F k→w0.heap.size≤k) (h3:AN w0 w) (h4:∀k,G k→¬F k∧k<w.heap.size) {ρ':Rs} (L:Lk σ' ρ') (hm:RMoved w w' b F ρ'):ROw w0 w' b σ' G∧But G w w':=by
 obtain⟨F',g1,g2,g3⟩:=hm;refine⟨⟨ρ',F',g1,L,fun k hk=>(g3 k hk).elim (h2 k) (fun h=>Nat.le_trans h3.size h),h3.trans g2 (fun k hk=>.inr (h2 k hk)),fun k hk=>?_⟩,g2.mono (fun k _ hf hg=>(h4 k hg).1 hf)⟩;obtain⟨p,q⟩:=h4 k hk;exact⟨fun hf=>(g3 k hf).elim p (fun h=>by omega),Nat.lt_of_lt_of_le q g2.size⟩
theorem ROw.leaf (h:ROw w0 w b σ G) (GG:Good σ) (key:List UInt8) (hk:key.length=32) {vv:Value} {bs:List UInt8} (hb:Bytes w vv bs) (v:Value) :
 Calls Tryz.prog 259 #[.pointer (some ⟨b,0,none⟩),.agg (AS key),vv] w fun e w'=>e=.returned (.tuple #[.int .i64 (As σ key bs v).1,.int .i64 (As σ key bs v).2.1])∧ROw w0 w' b (As σ key bs v).2.2 G∧But G w w':=by
 obtain⟨ρ,F,h1,L,h2,h3,h4⟩:=h;exact(TR h1 L GG key hk hb v).mono fun e w' ⟨he,ρ',L',hm⟩=>⟨he,ROw.Fj h1 h2 h3 h4 L' hm⟩
theorem ROw.inner (h:ROw w0 w b σ G) (GG:Good σ) (d l r:Int) :
 Calls Tryz.prog 302 #[.pointer (some ⟨b,0,none⟩),.int .i64 d,.int .i64 l,.int .i64 r] w fun e w'=>e=.returned (.tuple #[.int .i64 (Ag σ d l r).1,.int .i64 (Ag σ d l r).2.1])∧ROw w0 w' b (Ag σ d l r).2.2 G∧But G w w':=by
 obtain⟨ρ,F,h1,L,h2,h3,h4⟩:=h;exact(RI h1 L GG d l r).mono fun e w' ⟨he,ρ',L',hm⟩=>⟨he,ROw.Fj h1 h2 h3 h4 L' hm⟩
theorem ROw.hold (h:ROw w0 w b σ G) (GG:Good σ) (n:Int) :
 Calls Tryz.prog 155 #[.pointer (some ⟨b,0,none⟩),.int .i64 n] w fun e w'=>e=.returned (.int .i64 (Au σ n).1)∧ROw w0 w' b (Au σ n).2 G∧But G w w':=by
 obtain⟨ρ,F,h1,L,h2,h3,h4⟩:=h;exact(Tu h1 L GG n).mono fun e w' ⟨he,ρ',L',hm⟩=>⟨he,ROw.Fj h1 h2 h3 h4 L' hm⟩
theorem ROw.drop (h:ROw w0 w b σ G) (GG:Good σ) (n:Int) :
 Calls Tryz.prog 156 #[.pointer (some ⟨b,0,none⟩),.int .i64 n] w fun e w'=>e=.returned (.tuple #[.int .i64 (Aw σ n).1,.int .i64 (Aw σ n).2.1])∧ROw w0 w' b (Aw σ n).2.2 G∧But G w w':=by
 obtain⟨ρ,F,h1,L,h2,h3,h4⟩:=h;exact(Sq h1 L GG n).mono fun e w' ⟨he,ρ',L',hm⟩=>⟨he,ROw.Fj h1 h2 h3 h4 L' hm⟩
theorem ROw.Vf (h:ROw w0 w b σ G):Calls Tryz.prog 167 #[.pointer (some ⟨b,0,none⟩)] w fun e w'=>e=.returned (.bool false)∧w=w':=by
 obtain⟨ρ,F,h1,L,_⟩:=h;exact Cd h1
theorem ROw.kind (h:ROw w0 w b σ G) (GG:Good σ) (n:Int):Calls Tryz.prog 260 #[.pointer (some ⟨b,0,none⟩),.int .i64 n] w fun e w'=>e=.returned (.int .u8 ((nd σ n).kind:Nat))∧AN w w':=by
 obtain⟨ρ,F,h1,L,_⟩:=h;exact(Sz h1 n).mono fun e w' ⟨he,a⟩=>⟨by rw[he,L.kind GG],a⟩
theorem ROw.Wg (h:ROw w0 w b σ G) (GG:Good σ) (n:Int):Calls Tryz.prog 231 #[.pointer (some ⟨b,0,none⟩),.int .i64 n] w fun e w'=>e=.returned (.int .i64 (nd σ n).held)∧AN w w':=by
 obtain⟨ρ,F,h1,L,_⟩:=h;exact(SP h1 n).mono fun e w' ⟨he,a⟩=>⟨by rw[he,L.own GG],a⟩
theorem ROw.sides (h:ROw w0 w b σ G) (GG:Good σ) (n:Int):Calls Tryz.prog 297 #[.pointer (some ⟨b,0,none⟩),.int .i64 n] w fun e w'=>e=.returned (.tuple #[.int .i64 (nd σ n).left,.int .i64 (nd σ n).right])∧AN w w':=by
 obtain⟨ρ,F,h1,L,_⟩:=h;exact(P9 h1 n).mono fun e w' ⟨he,a⟩=>⟨by rw[he,L.left GG,L.right GG],a⟩
theorem ROw.room (h:ROw w0 w b σ G):Calls Tryz.prog 230 #[.pointer (some ⟨b,0,none⟩)] w fun e w'=>e=.returned (.int .i64 (σ.room:Nat))∧w=w':=by
 obtain⟨ρ,F,h1,L,_⟩:=h;exact(Sn h1).mono fun e w' ⟨he,a⟩=>⟨by rw[he,L.space],a⟩
theorem Lk.AX (L:Lk σ ρ) (GG:Good σ) (n:Int):ρ.AX n=Store.AX σ n:=by
 have hd:ρ.depth n=if (nd σ n).kind=2 then (nd σ n).depth else -1:=by unfold Rs.depth;exact L.depth GG n
 unfold Rs.AX Store.AX;rw[L.has GG,hd];by_cases h0:n=0
 · rw[if_pos h0,if_pos h0]
 rw[if_neg h0,if_neg h0];cases hs:σ.get? n with
 | none=>rw[if_pos (Dz hs),if_pos (Dz hs)]
 | some s =>
  rw[CF hs,Ap hs];simp only[Bool.true_eq_false,if_false];by_cases h2:s.1.kind=2
  · have:=(GG.fit.inner (Bl hs) h2).d0
    have e:s.1.depth=(stat s.1).depth:=rfl;rw[if_pos h2];by_cases hz:s.1.depth=0
    · rw[if_neg (by omega),if_neg (fun h=>h.2 hz)]
    rw[if_pos (by omega),if_pos ⟨h2,hz⟩]
  rw[if_neg h2,if_neg (by omega),if_neg (fun h=>h2 h.1)]
theorem ROw.root (h:ROw w0 w b σ G) (GG:Good σ) (n:Int):Calls Tryz.prog 80 #[.pointer (some ⟨b,0,none⟩),.int .i64 n] w fun e w'=>e=.returned (.int .i64 (AX σ n))∧AN w w':=by
 obtain⟨ρ,F,h1,L,_⟩:=h;exact(TW h1 n).mono fun e w' ⟨he,a⟩=>⟨by rw[he,L.AX GG],a⟩
end
section
variable {w w' : World} {b : Nat} {F : Nat→Prop} {ρ : Rs} {σ : AG Nd}
theorem Mm (h:RAt w b F ρ) (L:Lk σ ρ) (G:Good σ) :
 Calls Tryz.prog 265 #[.pointer (some ⟨b,0,none⟩)] w fun e w'=>∃v,e=.returned v∧w'.ownsRow w.heap.size 3 1 v (Gk σ).length (ints (Gk σ))∧AN w w':=by
 obtain⟨i0,hi,hz0,hz1,hz2⟩:=SlabN.DZ;have hl:=h.1.len;have hsp:=h.1.space;rw[L.len] at hl;obtain⟨ao,cap,vf,hb⟩:=h.head;rw[L.len] at hb;have HA:=Lib.hid h;have HB:=Lib.hid hb;have HI:=(hIq hi (aIq hz0 (aIq hz1 hz2)))
 have HG:=(hIq L G)
 obtain⟨n,hn⟩:∃n,n=σ.slots.length:=⟨_,rfl⟩
 have hn65:n≤65536:=by omega
 unfold Gk;rw[←hn] at HB ⊢;clear h hb hi hz0 hz1 hz2 hl hsp L G hn;go_enter Tryz.func265,Tryz.ntmps265;go_wp2;go_loopg [3,4] n (fun g s3 s4 wr=>∃k:Nat,k≤n∧g=n-k∧s4=.int .i64 ((k:Int)+1)∧wr.ownsRow w.heap.size 3 1 s3 (σ.occ k).length (ints (σ.occ k))∧AN w wr)
 case atStart=>exact⟨0,Nat.zero_le _,rfl,rfl,World.ownsRow_nil _ _ _ _,Ch.refl _ _⟩
 obtain⟨k,hk,rfl,rfl,hown,hA⟩:=hrel;have HOW:=Lib.hid hown;have HAd:=Lib.hid hA;have hNo:=Cd (HA.out.adds hA);have hHas:=FX (HA.out.adds hA) ((k:Int)+1);rw[HG.out.1.has HG.out.2] at hHas;have HNO:=Lib.hid hNo;have HHS:=Lib.hid hHas;have c2:=AH (hA.row HB.out id) (i:=2) rfl;have hol:=σ.Pv k;have hk65:(k:Int)≤65536:=by omega
 have hw1:IntKind.i64.wrap ((k:Int)+1+1)=(k:Int)+1+1:=IntWalk.i64_in _ (by omega);by_cases hkl:k<n
 · have hkz:(k:Int)+1≤(n:Int):=by omega
   cases hq:has σ ((k:Int)+1) with
   | false =>
    have hoc:σ.occ (k+1)=σ.occ k:=AG.J2 (by
     cases hx:σ.get? ((k:Int)+1) with
     | none=>rfl
     | some x=>rw[CF hx] at hq;cases hq)
    rw[hq] at HHS;have HOC:=Lib.hid hoc;clear hoc hq hown hA hNo hHas;go_wp2_with fail;refine HNO.out.mono ?_;rintro e w1 ⟨rfl,rfl⟩;go_wp2_with fail;refine HHS.out.mono ?_;rintro e w1 ⟨rfl,rfl⟩;go_wp2;go_roundg (n-(k+1))
    case measure=>omega
    exact⟨k+1,by omega,rfl,by push_cast;rfl,by rw[HOC.out];exact HOW.out,HAd.out⟩
   | true =>
    obtain⟨s,hx⟩:=Gw hq;have hoc:σ.occ (k+1)=σ.occ k ++ [k+1]:=AG.KZ hx;rw[hq] at HHS;have HOC:=Lib.hid hoc;have hsz:=hA.size;clear hoc hq hown hA hNo hHas hx;go_wp2_with fail;refine HNO.out.mono ?_;rintro e w1 ⟨rfl,rfl⟩;go_wp2_with fail;refine HHS.out.mono ?_;rintro e w1 ⟨rfl,rfl⟩
    go_wp2_with (first
     | (at_builtin;refine wpList_append_own_at _ rfl _ _ 61 rfl w.heap.size 3 i0 (.int .i64 0) 1 8 Tryz.underlying61 HI.out.1 HI.out.2.1 HI.out.2.2.1 HI.out.2.2.2 rfl (by decide) u3 _ _ rfl (HOW.out.alloc _) ⟨wr.heap.size,0,none⟩ 1 1 [.int .i64 ((k:Int)+1)] rfl rfl (cell_one_new _ _ _) (by simp[Value.oneCell']) (by unfold maxLen;omega) (by omega) (by simp;omega) ?_;intro v' w1 hown' hgrow hnil hloc;have HN:=(hIq hown' hgrow);clear hown' hgrow hnil hloc))
    go_roundg (n-(k+1))
    case measure=>omega
    refine⟨k+1,by omega,rfl,by push_cast;rfl,?_,(HAd.out.alloc _).grown HN.out.2 (fun j hj=>.inr (HOW.out.lt j hj).1)⟩;rw[HOC.out];simpa[ints] using HN.out.1
 obtain rfl:k=n:=by omega
 clear hown hA hNo hHas HHS;go_wp2_with fail;refine HNO.out.mono ?_;rintro e w1 ⟨rfl,rfl⟩;go_wp2;go_ret;exact⟨_,rfl,HOW.out,HAd.out⟩
theorem MQ (h:RAt w b F ρ) (L:Lk σ ρ) (G:Good σ) :
 Calls Tryz.prog 229 #[.pointer (some ⟨b,0,none⟩)] w fun e w'=>e=.returned (.int .i64 (live σ:Nat))∧AN w w':=by
 have HH:=Lib.hid (Mm h L G);have hl:=J0 (σ:=σ);rw[←hl];clear h L G hl;go_enter Tryz.func229,Tryz.ntmps229;go_wp2_with fail;refine HH.out.mono ?_;rintro e w1 ⟨v,rfl,o1,a1⟩;obtain⟨ao,cap,rfl⟩:=Am o1;have A1:=Lib.hid a1;clear o1 a1 HH;go_wp2;go_ret;exact⟨rfl,A1.out⟩
end
section
variable {w0 w w' : World} {b : Nat} {σ : AG Nd} {F G : Nat→Prop}
theorem ROw.Tc (h:ROw w0 w b σ G) (GG:Good σ):Calls Tryz.prog 229 #[.pointer (some ⟨b,0,none⟩)] w fun e w'=>e=.returned (.int .i64 (σ.used:Nat))∧AN w w':=by
 obtain⟨ρ,F,h1,L,_⟩:=h;exact(MQ h1 L GG).mono fun e w' ⟨he,a⟩=>⟨by rw[he,GG.used],a⟩
theorem JF (h:ROw w0 w b σ G) (GG:Good σ) (root:Int):Calls Tryz.prog 159 #[.pointer (some ⟨b,0,none⟩),.int .i64 root] w fun e w'=>e=.returned (.int .i64 (Az σ root))∧AN w w':=by
 have hrt:=h.root GG root;have hh:=fun w1 (a:AN w w1)=>(h.adds a).Wg GG root
 unfold Az;obtain⟨er,her⟩:∃x,x=AX σ root:=⟨_,rfl⟩
 obtain⟨hd,hhd⟩:∃x,x=(nd σ root).held:=⟨_,rfl⟩
 rw[←her] at hrt ⊢;rw[←hhd] at hh ⊢;have HR:=Lib.hid hrt;have HH:=Lib.hid hh;clear hrt hh her hhd h;by_cases h0:er=0
 · subst h0
   rw[if_neg (by simp)];by_cases h1:root=0
   · subst h1
     rw[if_neg (by simp)];go_enter Tryz.func159,Tryz.ntmps159;go_wp2_with fail;refine HR.out.mono ?_;rintro e w1 ⟨rfl,a1⟩;go_wp2;go_ret;exact⟨rfl,a1⟩
   by_cases h2:hd=0
   · rw[if_pos ⟨h1,h2⟩]
     go_enter Tryz.func159,Tryz.ntmps159;go_wp2_with fail;refine HR.out.mono ?_;rintro e w1 ⟨rfl,a1⟩;go_wp2_with fail;refine(HH.out _ a1).mono ?_;rintro e w2 ⟨rfl,a2⟩;go_wp2;go_ret;exact⟨rfl,a1.trans a2 (fun _=>fEq)⟩
   rw[if_neg (fun h=>h2 h.2)];have e1:(hd == 0)=false:=by simpa using h2
   have e2:(root != 0)=true:=by simpa using h1
   go_enter Tryz.func159,Tryz.ntmps159;go_wp2_with fail;refine HR.out.mono ?_;rintro e w1 ⟨rfl,a1⟩;go_wp2_with fail;refine(HH.out _ a1).mono ?_;rintro e w2 ⟨rfl,a2⟩;go_wp2;go_ret;exact⟨rfl,a1.trans a2 (fun _=>fEq)⟩
 rw[if_pos h0];go_enter Tryz.func159,Tryz.ntmps159;go_wp2_with fail;refine HR.out.mono ?_;rintro e w1 ⟨rfl,a1⟩;go_wp2;go_ret;exact⟨rfl,a1⟩
theorem ROw.JX (h:ROw w0 w b σ G) (GG:Good σ):σ.used≤65536∧1≤σ.room∧σ.room≤65536:=by
 obtain⟨ρ,F,h1,L,_⟩:=h;have a1:=h1.1.len;have a2:=h1.1.space;have a3:=L.len;have a4:=L.space;unfold AG.used;omega
theorem Gg (h:ROw w0 w b σ G) (GG:Good σ) (j:Int):Calls Tryz.prog 158 #[.pointer (some ⟨b,0,none⟩),.int .i64 j] w fun e w'=>e=.returned (.bool (C9 σ j))∧AN w w':=by
 obtain⟨hu,hr1,hr2⟩:=h.JX GG;have hno:=h.Vf;have hrm:=fun w1 (a:AN w w1)=>(h.adds a).room
 have hoc:=h.Tc GG;unfold C9;obtain⟨rm,hrm'⟩:∃x,x=σ.room:=⟨_,rfl⟩
 obtain⟨us,hus⟩:∃x,x=σ.used:=⟨_,rfl⟩
 rw[←hrm'] at hrm hr1 hr2 ⊢;rw[←hus] at hoc hu ⊢;have HN:=Lib.hid hno;have HR:=Lib.hid hrm;have HO:=Lib.hid hoc;clear hrm hoc hrm' hus h hno;by_cases h0:0≤j
 · rw[decide_eq_true h0,Bool.true_and]
   by_cases h1:j≤64
   · rw[decide_eq_true h1,Bool.true_and]
     have hw:IntKind.i64.wrap (258*j)=258*j:=by rw[IntKind.wrap];simp[IntKind.signed,IntKind.bits];omega
     have hw2:IntKind.i64.wrap ((us:Int)+258*j)=(us:Int)+258*j:=by rw[IntKind.wrap];simp[IntKind.signed,IntKind.bits];omega
     obtain⟨p,hp⟩:∃p,p=258*j:=⟨_,rfl⟩
     rw[←hp] at hw hw2 ⊢;obtain⟨q,hq⟩:∃q,q=(us:Int)+p:=⟨_,rfl⟩
     rw[←hq] at hw2 ⊢;go_enter Tryz.func158,Tryz.ntmps158;go_wp2_with fail;refine HN.out.mono ?_;rintro e w1 ⟨rfl,rfl⟩;go_wp2_with fail;refine HO.out.mono ?_;rintro e w1 ⟨rfl,a1⟩;go_wp2_with fail;refine(HR.out _ a1).mono ?_;rintro e w2 ⟨rfl,rfl⟩;go_wp2;go_ret;refine⟨?_,a1⟩;simp[go_sem,hq,hp]
   rw[decide_eq_false h1,Bool.false_and];go_enter Tryz.func158,Tryz.ntmps158;go_wp2_with fail;refine HN.out.mono ?_;rintro e w1 ⟨rfl,rfl⟩;go_wp2;go_ret;exact⟨rfl,Ch.refl _ _⟩
 rw[decide_eq_false h0,Bool.false_and];go_enter Tryz.func158,Tryz.ntmps158;go_wp2_with fail;refine HN.out.mono ?_;rintro e w1 ⟨rfl,rfl⟩;go_wp2;go_ret;exact⟨rfl,Ch.refl _ _⟩
theorem Jg (h:ROw w0 w b σ G) (GG:Good σ) (d:Int) (key:List UInt8) (hk:key.length=32) (own other:Int) :
 Calls Tryz.prog 263 #[.pointer (some ⟨b,0,none⟩),.agg (AS key),.int .i64 d,.int .i64 own,.int .i64 other] w fun e w'=>e=.returned (.int .i64 (CY σ key d own other).1)∧ROw w0 w' b (CY σ key d own other).2.2 G∧But G w w':=by
 have hb:=MH key hk d;unfold CY;obtain⟨K,hK⟩:∃K,K=AS key:=⟨_,rfl⟩
 have hKs:K.size=32:=by rw[hK,AU,hk]
 obtain⟨bt,hbt⟩:∃b,b=bit key d:=⟨_,rfl⟩
 rw[←hK, ←hbt] at hb;rw[←hK, ←hbt];have HB:=Lib.hid hb;have HA:=Lib.hid h;have HK:=Lib.hid hKs;have hin:=fun w1 (a:AN w w1)=>(HA.out.adds a).inner GG d
 have HI:=Lib.hid hin;clear hin hb h hK hbt hKs;by_cases hz:bt=1
 · rw[if_pos hz,if_pos hz]
   subst hz;go_enter Tryz.func263,Tryz.ntmps263
   go_wp2_with (first
    | fail
    | ((with_reducible show zOq (.load 47 _));refine AJ rfl 47 _ rfl w.heap.size 0 rfl (heap_alloc_new w (.cells K 47)) Tryz.underlying47 rfl Ab (by rw[HK.out];omega) K (by simp[←HK.out]) ?_))
   refine(HB.out _).mono ?_;rintro e w1 ⟨rfl,a1⟩;have A1:=Lib.hid (((Ch.refl (fun _=>False) w).alloc (.cells K 47)).trans a1 (fun _=>fEq));clear a1;go_wp2_with fail;refine(HI.out _ A1.out other own).mono ?_;rintro e w2 ⟨rfl,o2,b2⟩;go_wp2;go_ret;exact⟨rfl,o2,(AN.but A1.out).then b2⟩
 rw[if_neg hz,if_neg hz];go_enter Tryz.func263,Tryz.ntmps263
 go_wp2_with (first
  | fail
  | ((with_reducible show zOq (.load 47 _));refine AJ rfl 47 _ rfl w.heap.size 0 rfl (heap_alloc_new w (.cells K 47)) Tryz.underlying47 rfl Ab (by rw[HK.out];omega) K (by simp[←HK.out]) ?_))
 refine(HB.out _).mono ?_;rintro e w1 ⟨rfl,a1⟩;have A1:=Lib.hid (((Ch.refl (fun _=>False) w).alloc (.cells K 47)).trans a1 (fun _=>fEq));clear a1;go_wp2_with fail;refine(HI.out _ A1.out own other).mono ?_;rintro e w2 ⟨rfl,o2,b2⟩;go_wp2;go_ret;exact⟨rfl,o2,(AN.but A1.out).then b2⟩
theorem RG (h:ROw w0 w b σ G) (GG:Good σ) (n:Int) (d:Nat) (key:List UInt8) (hk:key.length=32) :
 Calls Tryz.prog 264 #[.pointer (some ⟨b,0,none⟩),.agg (AS key),.int .i64 (d:Int),.int .i64 n] w fun e w'=>e=.returned (.int .i64 (DB σ key n d))∧AN w w':=by
 have hb:=MH key hk (d:Int);obtain⟨K,hK⟩:∃K,K=AS key:=⟨_,rfl⟩
 have hKs:K.size=32:=by rw[hK,AU,hk]
 have hsd:=(h.adds ((Ch.refl (fun _=>False) w).alloc (.cells K 47))).sides GG n;unfold DB;obtain⟨bt,hbt⟩:∃b,b=bit key (d:Int):=⟨_,rfl⟩
 obtain⟨lf,hlf⟩:∃x,x=(nd σ n).left:=⟨_,rfl⟩
 obtain⟨rg,hrg⟩:∃x,x=(nd σ n).right:=⟨_,rfl⟩
 rw[←hlf, ←hrg] at hsd ⊢;rw[←hK, ←hbt] at hb;rw[←hK, ←hbt];have HB:=Lib.hid hb;have HS:=Lib.hid hsd;have HK:=Lib.hid hKs;clear hb h hK hbt hKs hsd hlf hrg;by_cases hz:bt=1
 · rw[if_pos hz]
   subst hz;go_enter Tryz.func264,Tryz.ntmps264;go_wp2_with fail;refine HS.out.mono ?_;rintro e w1 ⟨rfl,a1⟩;have k1:=a1.row (heap_alloc_new w (.cells K 47)) id;have K1:=(hIq k1 (((Ch.refl (fun _=>False) w).alloc (.cells K 47)).trans a1 (fun _=>fEq)))
   clear a1 k1
   go_wp2_with (first
    | fail
    | ((with_reducible show zOq (.load 47 _));refine AJ rfl 47 _ rfl w.heap.size 0 rfl K1.out.1 Tryz.underlying47 rfl Ab (by rw[HK.out];omega) K (by simp[←HK.out]) ?_))
   refine(HB.out _).mono ?_;rintro e w2 ⟨rfl,a2⟩;go_wp2;go_ret;exact⟨rfl,K1.out.2.trans a2 (fun _=>fEq)⟩
 rw[if_neg hz];go_enter Tryz.func264,Tryz.ntmps264;go_wp2_with fail;refine HS.out.mono ?_;rintro e w1 ⟨rfl,a1⟩;have k1:=a1.row (heap_alloc_new w (.cells K 47)) id;have K1:=(hIq k1 (((Ch.refl (fun _=>False) w).alloc (.cells K 47)).trans a1 (fun _=>fEq)))
 clear a1 k1
 go_wp2_with (first
  | fail
  | ((with_reducible show zOq (.load 47 _));refine AJ rfl 47 _ rfl w.heap.size 0 rfl K1.out.1 Tryz.underlying47 rfl Ab (by rw[HK.out];omega) K (by simp[←HK.out]) ?_))
 refine(HB.out _).mono ?_;rintro e w2 ⟨rfl,a2⟩;go_wp2;go_ret;exact⟨rfl,K1.out.2.trans a2 (fun _=>fEq)⟩
end
theorem _root_.Go.Proofs.YtngbdbpofifimaaGreat.Tag.Jz.adds {w w':World} {v:Value} {ps:List (List UInt8)} (h:Tag.Jz w v ps) (a:AN w w'):Tag.Jz w' v ps:=by
 obtain⟨ao,cap,rfl,hps⟩:=h;refine⟨ao,cap,rfl,fun i p hp=>?_⟩;obtain⟨g,off,x,e,hc,hb,hk⟩:=hps i p hp;exact⟨g,off,x,e,a.cell hc id,hb.Ae a (fun _ _ h=>h),fun h0 k h=>Nat.lt_of_lt_of_le (hk h0 k h) a.size⟩
end Go.Proofs.YtngbdbpofifimaaGreat.Store
namespace Go.Proofs.YtngbdbpofifimaaGreat.Store
open Go.RowKit Go.Sort Go.Proofs.YtngbdbpofifimaaGreat.ShaW Go.Proofs.YtngbdbpofifimaaGreat.Path Go.Proofs.YtngbdbpofifimaaGreat.Bk
structure Lp (w:World) (v:Value) (out:List Pr):Prop where
 row:RowP w 0 v out
 nil:out = []→v=.slice none 0 0
 good:∀x∈out,x.Good w
theorem _root_.Go.Proofs.YtngbdbpofifimaaGreat.Bk.Pr.Good.adds {w w':World} {x:Pr} (h:x.Good w) (a:AN w w'):x.Good w' :=
 ⟨h.key,h.val.Ae a (fun _ _ h=>h),fun h0 k hk=>Nat.lt_of_lt_of_le (h.blk h0 k hk) a.size⟩
theorem _root_.Go.Proofs.YtngbdbpofifimaaGreat.Bk.Pr.Good.one {w:World} {x:Pr} (h:x.Good w):∀u∈x.cells.toList,u.oneCell'=true:=fun u hu=>by
 obtain⟨ao,cap,e,_⟩:=h.val.form;rw[Pr.list,List.mem_append,List.mem_map,List.mem_singleton] at hu;rcases hu with⟨c,_,rfl⟩|rfl
 · rfl
 rw[e];rfl
def Xn (b d:Nat) (l:List Pr):List Pr:=l.filter (fun x=>Ao x.key d == b)
theorem Td (w:World) (x:Pr) (hk:x.key.length=32):RowP (w.alloc (.cells x.cells 86)) w.heap.size (.slice (some ⟨w.heap.size,0,none⟩) 1 1) [x]:=by
 refine World.ownsRow.base (b:=0) (B4 (heap_alloc_new _ _) (Nat.le_refl 1) (by unfold maxLen;omega) (by show x.cells.size=1*33;rw[Pr.size hk]) ?_) (fun j hj=>?_)
 · show x.cells.toList.take (1*33)=BZ [_]
   rw[List.take_of_length_le (by rw[Array.length_toList,Pr.size hk];omega)];simp[BZ]
 cases hj;exact Nat.le_refl _
theorem RN:(Tryz.prog.info? (Tryz.prog.elem 56)).isSome=true:=by kernel_rfl
theorem Gm {w:World} {ops:Array Oper} {rest:List Oper} {o:Oper} {a:Act} {Q:Exit→Act→World→Prop} (hgd:o.guard=none) (s x:Operand)
 (ho:o.op=.call { callee:=.builtin .append,args:=#[s,x],argTypes:=#[56,56] }) {ao a2:Option Addr} {n cap c2:Nat} (hs:a.eval s=.slice ao n cap) (hx:a.eval x=.slice a2 0 c2) (hc:n≤cap)
 (h:wpList Tryz.prog ops Q rest (a.put o.dst (.slice ao n cap)) w):wpList Tryz.prog ops Q (o::rest) a w:=by
 obtain⟨i,z,p1,p2,p3,p4,p5⟩:=GR;refine wpList_plain hgd fun K hK=>?_
 have hsrc:Src Tryz.prog i.size 56 (.slice a2 0 c2) 0 [] w:=by
  cases a2 with
  | none=>exact Src.ofNil w Tryz.underlying56 c2
  | some b=>exact Src.ofSlice w Tryz.underlying56 b 0 c2 [] (by simp) (fun j u hu=>by simp at hu) (fun u hu=>by cases hu)
 have hrun:=run_append_nothing (P:=Tryz.prog) w 56 56 o.type 86 i Tryz.underlying56 p1 ao n cap hc _ hsrc;unfold Oper.wp;simp[execOp,ho,resolve,invoke,builtin,hs,hx,hrun,Result.andThen];exact hK _ _ h
theorem PT {w:World} {b:Nat} {ao:Option Addr} {n cap:Nat} {l:List Pr} (h:RowP w b (.slice ao n cap) l):n=l.length∧n≤cap:=by
 obtain⟨ao',cap',e⟩:=h.form;injection e with e1 e2 e3;subst e1 e2 e3;refine⟨rfl,?_⟩;rcases h.2 with⟨e,h0⟩|⟨g,cap',cur,e,_,_,hn,_⟩
 · rw[h0];exact Nat.zero_le _
 cases e;exact hn
theorem Gt (w:World) (b:Nat):RowP w b (.slice none 0 0) []:=⟨rfl,.inl ⟨rfl,rfl⟩⟩
def SO (w:World) (l:List Pr) (e:Ending) (w':World):Prop:=∃v',e=.returned v'∧RowP w' w.heap.size v' l∧(l = []→v'=.slice none 0 0)∧AN w w'
theorem TL {a b:List UInt8} (h:Lib.compareBytes a b<0):¬Lib.compareBytes b a<0:=fun h2=>by
 have:=CP _ _ _ h h2;rw[Ml] at this;exact absurd this (by decide)
theorem Of {w:World} {v:Value} {l:List Pr} (h:Lp w v l) (hl:l.length≤100000) (hs:(l.map (·.key)).Pairwise (fun a b=>Lib.compareBytes a b<0)) :
 Calls Tryz.prog 81 #[v] w (SO w l):=by
 obtain⟨n,hn⟩:∃n,n=l.length:=⟨_,rfl⟩
 obtain⟨ao,cap,rfl⟩:=h.row.form;have hko:Gr l:=fun x hx=>(h.good x hx).key
 have hat:∀i x,l[i]?=some x→∃g,ao=some ⟨g,0,none⟩∧∃cur,w.heap[g]?=some (.cells cur 86 (0,0))∧i*33+33≤cur.size∧cur.extract (i*33) (i*33+33)=x.cells:=fun i x hx=>by
  have hi:=(List.getElem?_eq_some_iff.1 hx).1;obtain⟨g,cap',cur,e,_,hg,hsz,hget,_⟩:=h.row.open hko (by omega)
  injection e with e1 _ _;exact⟨g,e1,cur,hg,by omega,hget i x hx⟩
 obtain⟨i0,z0,p1,p2,p3,p4,p5⟩:=LB;have HI:=(hIq p1 (aIq p2 (aIq p3 (aIq p4 p5))))
 have HL:=(hIq hat (aIq hn (aIq hl (aIq hs h.good))))
 rw[←hn];clear hat hn hl hs h hko p1 p2 p3 p4 p5;go_enter Tryz.func81,Tryz.ntmps81;go_wp2_with fail;go_loopg [3,4,5,6] n (fun gg s3 s4 s5 s6 wr=>∃(i:Nat) (oo:Option Addr) (oc:Nat),i≤n∧gg=n-i∧s4=.int .i64 i∧s3=.slice oo i oc∧RowP wr w.heap.size (.slice oo i oc) (l.take i)∧(i=0→oo=none∧oc=0)∧AN w wr)
 case atStart=>exact⟨0,none,0,Nat.zero_le _,rfl,rfl,rfl,Gt _ _,fun _=>⟨rfl,rfl⟩,Ch.refl _ _⟩
 obtain⟨i,oo,oc,hi,rfl,rfl,rfl,hrow,hz,ha⟩:=hrel;have HA:=(hIq hrow (aIq hz ha))
 have hioc:=(PT hrow).2;clear hrow hz ha;by_cases hin:i<n
 · have e1:(i:Int)<(n:Int):=by omega
   obtain⟨x,hx⟩:∃x,l[i]?=some x:=⟨_,List.getElem?_eq_getElem (by have:=HL.out.2.1;omega)⟩
   obtain⟨g,rfl,cur,c1,c2,c3⟩:=HL.out.1 i x hx;have hgx:=HL.out.2.2.2.2 x (List.mem_of_getElem? hx);obtain⟨c4,_⟩:=CG hgx.key c3;obtain⟨C,hC⟩:∃C,C=x.cells:=⟨_,rfl⟩
   have hCs:C.size=33:=by rw[hC];exact Pr.size hgx.key
   obtain⟨X,hX⟩:∃X,X=AS x.key:=⟨_,rfl⟩
   rw[←hX] at c4;rw[←hC] at c3;have htk:l.take (i+1)=l.take i ++ [x]:=by rw[List.take_add_one,hx];rfl
   have HX:=(hIq c1 (aIq c2 (aIq c3 (aIq c4 (aIq hgx (aIq hC (aIq hCs (aIq hX (aIq htk hx)))))))))
   have hup:=Jv oo i oc i hioc;have hfr:=Jt oo i oc i (Nat.le_refl _) hioc;rw[Nat.sub_self] at hfr;obtain⟨fa,hfa⟩:∃fa,fa=JS oo oc i:=⟨_,rfl⟩
   obtain⟨fc,hfc⟩:∃fc,fc=oc-i:=⟨_,rfl⟩
   rw[←hfa, ←hfc] at hfr;have hwi:wrap64 ((i:Int)+1)=(i:Int)+1:=by have h2:=HL.out.2.2.1;have:=HL.out.2.1;unfold wrap64;omega
   clear hx c1 c2 c3 c4 hgx hC hCs hX htk hfa hfc;go_wp2_with fail;go_loopg [5] 0 (fun gg s5 wx=>gg=0∧s5=.int .i64 i∧AN wr wx)
   case atStart=>exact⟨rfl,rfl,Ch.refl _ _⟩
   obtain⟨rfl,rfl,hax⟩:=hrel;have HAX:=(hIq hax (aIq (hax.row (HA.out.2.2.row HX.out.1 id) id) ((RowP.adds HA.out.1 hax))))
   clear hax
   iterate 2 go_step
   go_cut [31] (fun s31 wy=>s31=.bool false∧AN wr wy)
   case first =>
    by_cases h0:i=0
    · subst h0
      refine AP (fun wz=>AN wr wz) 17 [(0,false),(1,false),(2,false),(3,false),(4,false),(5,false),(6,false),(7,false),(8,false),(9,false),(10,false),(11,false),(12,false),(13,false),(14,true),(15,false),(16,false)] (by kernel_rfl) (by kernel_rfl) ?_ ?_
      · exact(Ch.refl _ _).drew
      refine plan_look rfl rfl (fun w0 hS=>(by clear hS;go_simp;try rfl)) ?_;simp only[Act.put,nAq,nBq,nCq]
      iterate 2
       refine plan_look (v:=.bool false) rfl rfl (fun w0 hS=>(by clear hS;go_simp;try rfl)) ?_;simp only[Act.put,nAq,nBq,nCq]
      iterate 11
       refine BN rfl rfl ?_;simp only[Act.put,nAq,nBq,nCq]
      refine AW rfl ?_;go_wp2;refine⟨(Ch.refl _ _).drew,?_⟩;refine BN rfl rfl ?_;simp only[Act.put,nAq,nBq,nCq];refine plan_look (v:=.bool false) rfl rfl (fun w0 hS=>(by clear hS;go_simp;try rfl)) ?_;simp only[Act.put,nAq,nBq,nCq];refine AZ ?_;simp only[List.drop_succ_cons,List.drop_zero];go_wp2;refine NoPanic.normal ?_;go_wp2;go_meet;exact⟨rfl,(Ch.refl _ _).drew⟩
    obtain⟨j,hj⟩:∃j,i=j+1:=⟨i-1,by omega⟩
    obtain⟨y,hy⟩:∃y,l[j]?=some y:=⟨_,List.getElem?_eq_getElem (by have:=HL.out.2.1;omega)⟩
    have hgy:=HL.out.2.2.2.2 y (List.mem_of_getElem? hy);have hlt:(l.take i).length=i:=by rw[List.length_take];have:=HL.out.2.1;omega
    obtain⟨g2,cap2,cur2,e2,_,hr2,hs2,hget2,_⟩:=RowP.open HAX.out.2.2 (fun z hz=>(HL.out.2.2.2.2 z (List.mem_of_mem_take hz)).key) (by rw[hlt];omega)
    injection e2 with e2 e2b e2c;clear e2b e2c;subst e2;have hq:=hget2 j y (by rw[List.getElem?_take_of_lt (by omega)];exact hy);obtain⟨q4,_⟩:=CG hgy.key hq;rw[hlt] at hs2;have hcm:=fun w1=>Er x.key y.key HX.out.2.2.2.2.1.key hgy.key w1
    have hcx:Lib.compareBytes y.key x.key<0:=by
     have h1:=List.pairwise_iff_getElem.1 HL.out.2.2.2.1 j i (by rw[List.length_map];have:=HL.out.2.1;omega) (by rw[List.length_map];have:=HL.out.2.1;omega) (by omega);have e3:(l.map (·.key))[j]?=some y.key:=by rw[List.getElem?_map,hy];rfl
     have e4:(l.map (·.key))[i]?=some x.key:=by rw[List.getElem?_map,HX.out.2.2.2.2.2.2.2.2.2];rfl
     rw[List.getElem?_eq_getElem (by rw[List.length_map];have:=HL.out.2.1;omega)] at e3 e4;rw[Option.some.inj e3,Option.some.inj e4] at h1;exact h1
    have hnc:=TL hcx;rw[←HX.out.2.2.2.2.2.2.2.1] at hcm;obtain⟨Y,hY⟩:∃Y,Y=AS y.key:=⟨_,rfl⟩
    obtain⟨cv,hcv⟩:∃cv,cv=Lib.compareBytes x.key y.key:=⟨_,rfl⟩
    rw[←hY] at hcm q4;rw[←hcv] at hcm hnc;have hdc:decide (cv<0)=false:=decide_eq_false hnc;have HQ:=(hIq hr2 (aIq hs2 (aIq q4 (aIq hcm hj))))
    have f1:decide ((0:Int)<(i:Int))=true:=decide_eq_true (by omega);have f2:(j:Int)<(i:Int):=by omega
    have f3:0<i:=by omega
    have f4:j<i:=by omega
    clear h0 hj hy hgy hlt hr2 hs2 hget2 hq q4 hcm hcx hY hcv hup hfr;refine AP (fun wz=>wz.heap[g]?=some (.cells cur 86 (0,0))∧wz.heap[g2]?=some (.cells cur2 86 (0,0))) 17 [(0,false),(1,false),(2,false),(3,false),(4,false),(5,false),(6,false),(7,false),(8,false),(9,false),(10,false),(11,false),(12,false),(13,false),(14,true),(15,false),(16,false)] (by kernel_rfl) (by kernel_rfl) ?_ ?_
    · exact⟨AM HAX.out.2.1,AM HQ.out.1⟩
    refine plan_look rfl rfl (fun w0 hS=>(by clear hS;go_simp;try rfl)) ?_;simp only[Act.put,nAq,nBq,nCq]
    iterate 2
     refine plan_look (v:=.bool true) rfl rfl (fun w0 hS=>(by clear hS;go_simp;try rfl)) ?_;simp only[Act.put,nAq,nBq,nCq]
    iterate 4
     refine plan_look rfl rfl (fun w0 hS=>(by clear hS;go_simp;try rfl)) ?_;simp only[Act.put,nAq,nBq,nCq]
    refine Cc (cur:=cur) (t:=86) (fr:=(0,0)) rfl rfl 47 _ rfl g (i*33) 32 rfl (fun w0 hS=>hS.1) Tryz.underlying47 rfl Ab (by have:=HX.out.2.1;omega) X HX.out.2.2.2.1 ?_;simp only[Act.put,nAq,nBq,nCq]
    iterate 2
     refine plan_look rfl rfl (fun w0 hS=>(by clear hS;go_simp;try rfl)) ?_;simp only[Act.put,nAq,nBq,nCq]
    refine plan_look (v:=.int .i64 (j:Int)) rfl rfl (fun w0 hS=>(by clear hS;go_simp;first|done|rfl|(rw[IntWalk.i64_in _ (by have:=HQ.out.2.2.2.2;have:=HL.out.2.2.1;have:=HL.out.2.1;omega)];have:=HQ.out.2.2.2.2;omega))) ?_;simp only[Act.put,nAq,nBq,nCq]
    iterate 2
     refine plan_look rfl rfl (fun w0 hS=>(by clear hS;go_simp;try rfl)) ?_;simp only[Act.put,nAq,nBq,nCq]
    refine Cc (cur:=cur2) (t:=86) (fr:=(0,0)) rfl rfl 47 _ rfl g2 (j*33) 32 rfl (fun w0 hS=>hS.2) Tryz.underlying47 rfl Ab (by have:=HQ.out.2.1;have:=HQ.out.2.2.2.2;omega) Y HQ.out.2.2.1 ?_;simp only[Act.put,nAq,nBq,nCq];refine AW rfl ?_;go_wp2_with fail;refine(HQ.out.2.2.2.1 _).mono ?_;rintro e w3 ⟨rfl,a3⟩;have A3:=(hIq (((Ch.refl (fun _=>False) wr).drew).trans a3 (fun _=>fEq)) (aIq (a3.row (AM HAX.out.2.1) id) (a3.row (AM HQ.out.1) id)))
    clear a3;dsimp only;go_step;refine wpList_nil ?_;change _∧_;refine⟨A3.out.2,?_⟩
    iterate 2
     refine plan_look (v:=.bool false) rfl rfl (fun w0 hS=>(by clear hS;go_simp;try rfl)) ?_;simp only[Act.put,nAq,nBq,nCq]
    refine AZ ?_;simp only[List.drop_succ_cons,List.drop_zero];go_wp2;refine NoPanic.normal ?_;go_wp2;go_meet;exact⟨rfl,A3.out.1⟩
   obtain⟨rfl,hay⟩:=hcut;have HAY:=(hIq (HA.out.2.2.trans (HAX.out.1.trans hay (fun _=>fEq)) (fun _=>fEq)) (aIq (hay.row HAX.out.2.1 id) (RowP.adds HAX.out.2.2 hay)))
   clear hay;have hlt:(l.take i).length=i:=by rw[List.length_take];have:=HL.out.2.1;omega
   have HT:=Lib.hid hlt;clear hlt hup hfr
   go_wp2_with (first
    | fail
    | ((with_reducible show wpList _ _ _ (⟨_,.slice 56 _ none _ _,_,_,_,_⟩::_) _ _);refine KG rfl 56 _ _ rfl Hf RN oo i oc rfl i .i64 rfl hioc ?_)
    | ((with_reducible show wpList _ _ _ (⟨_,.slice 56 _ (some _) _ _,_,_,_,_⟩::_) _ _);refine Ia rfl _ _ rfl oo i oc i rfl rfl (Nat.le_refl _) hioc ?_;rw[Nat.sub_self])
    | ((with_reducible show zOq (.load 86 _));refine AJ rfl 86 _ rfl g (i*33) rfl H8.out.2.2 Tryz.underlying86 rfl B8 HX.out.2.1 C HX.out.2.2.1 ?_)
    | ((with_reducible show zOq (.buildSlice 56 _ _));refine Bo rfl 56 _ rfl 86 i0 z0 (.agg C) rfl Tryz.underlying56 HI.out.1 HI.out.2.1 (by rw[HI.out.2.2.1];omega) (by rw[HI.out.2.2.1];omega) (by rw[HI.out.2.2.1];exact HX.out.2.2.2.2.2.2.1) ?_)
    | (at_builtin;refine B5 rfl _ _ rfl (v1:=.slice none 0 0) (v2:=.slice oo i oc) (l1 := []) (l2:=l.take i) rfl rfl (Gt _ w.heap.size) HAY.out.2.2 (fun he=>by have hz:=HA.out.2.1 (by rw[←HT.out,he];rfl);rw[hz.1,hz.2, ←HT.out,he];rfl) (by rw[HT.out];have:=HL.out.2.2.1;have:=HL.out.2.1;simp;omega) (fun p hp=>(HL.out.2.2.2.2 p (List.mem_of_mem_take hp)).one) HAY.out.1.size ?_;intro v8 w8 hr8 hn8 hg8;have hf8:∃q c,v8=.slice q i c:=(by { obtain⟨q,c,e⟩:=hr8.form;exact⟨q,c,by rw[e,List.nil_append,HT.out]⟩ });obtain⟨q8,c8,rfl⟩:=hf8;rw[List.nil_append] at hr8;have h88:=Ch.grown HAY.out.1 hg8 (fun k hk=>by cases hk);have r88:=(Ch.grown (F:=fun _=>False) (Ch.refl _ _) hg8 (fun k hk=>by cases hk)).row HAY.out.2.1 id;have H8:=(hIq hr8 (aIq h88 r88));clear hr8 hn8 hg8 h88 r88)
    | (at_builtin;refine B5 rfl _ _ rfl (v1:=.slice q8 i c8) (v2:=.slice (some ⟨w8.heap.size,0,none⟩) 1 1) (l1:=l.take i) (l2 := [x]) rfl rfl (RowP.adds H8.out.1 ((Ch.refl _ _).alloc _)) (by rw[show Value.cells (.agg C)=x.cells from HX.out.2.2.2.2.2.1];exact Td w8 x HX.out.2.2.2.2.1.key) (fun h=>by cases h) (by rw[HT.out];have:=HL.out.2.2.1;have:=HL.out.2.1;simp;omega) (fun p hp=>by obtain rfl:=List.mem_singleton.1 hp;exact HX.out.2.2.2.2.1.one) (by have:=H8.out.2.1.size;simp;omega) ?_;intro v9 w9 hr9 hn9 hg9;have hf9:∃q c,v9=.slice q (i+1) c:=(by { obtain⟨q,c,e⟩:=hr9.form;exact⟨q,c,by rw[e,List.length_append,HT.out];rfl⟩ });obtain⟨q9,c9,rfl⟩:=hf9;have h99:=Ch.grown (H8.out.2.1.alloc _) hg9 (fun k hk=>.inr (H8.out.1.lt k hk).1);have H9:=(hIq hr9 h99);have hle9:=(PT hr9).2;clear hr9 hn9 hg9 h99)
    | (at_builtin;refine Gm rfl _ _ rfl (ao:=q9) (n:=i+1) (cap:=c9) rfl rfl hle9 ?_))
   go_wp2;go_roundg (n-(i+1))
   case measure=>omega
   exact⟨i+1,q9,c9,by omega,rfl,by first|(simp;done)|(simp[hwi];done),rfl,by rw[HX.out.2.2.2.2.2.2.2.2.1];exact H9.out.1,fun h=>by omega,H9.out.2⟩
 have e1:¬(i:Int)<(n:Int):=by omega
 have he:i=n:=by omega
 go_wp2;go_ret;refine⟨_,rfl,?_,fun h0=>?_,HA.out.2.2⟩
 · have h1:=HA.out.1
   rw[List.take_of_length_le (by have:=HL.out.2.1;omega),he] at h1;exact h1
 have hz:=HA.out.2.1 (by have:=HL.out.2.1;rw[h0] at this;simp at this;omega);have h3:i=0:=by have:=HL.out.2.1;rw[h0] at this;simp at this;omega
 obtain⟨z1,z2⟩:=hz;subst z1;subst z2;have h4:n=0:=by rw[←he];exact h3
 subst h4;rfl
end Go.Proofs.YtngbdbpofifimaaGreat.Store

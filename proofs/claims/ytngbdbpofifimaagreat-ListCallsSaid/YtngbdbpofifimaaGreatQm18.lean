/- Laws of the layers below. -/
import Derived.Test.YtngbdbpofifimaaGreatQm16
import Derived.Test.YtngbdbpofifimaaGreatQm17
set_option maxHeartbeats 3200000
set_option maxRecDepth 100000
set_option linter.unusedVariables false
namespace Go.Proofs.YtngbdbpofifimaaGreat.Store
open Go.RowKit Go.Proofs.YtngbdbpofifimaaGreat.ShaW Go.Proofs.YtngbdbpofifimaaGreat.Path
section
variable {w0 w : World} {s : Nat} {σ : AG Nd} {F G : Nat→Prop}
theorem D2 (h:At w s F σ):((σ.room:Int) == 0)=false:=by
 have:=h.JX.2.1;simpa using (show ¬(σ.room:Int)=0 by omega)
theorem Th (h:At w s F σ) (root:Int) (K:Array Value) (ao:Option Addr) (len cap:Nat) (hl:1024<len) :
 Calls Tryz.prog 60 #[.pointer (some ⟨s,0,none⟩),.int .i64 root,.agg K,.slice ao len cap] w fun e w'=>e=.returned (.tuple #[.int .i64 0,.int .i64 4])∧AN w w':=by
 have hr:=DU (h.adds ((Ch.refl (fun _=>False) w).alloc (.cells K 47)));have hp:=D2 h;have HR:=Lib.hid hr;clear hr h;go_enter Tryz.func60,Tryz.ntmps60;go_wp2_with fail;refine HR.out.mono ?_;rintro e w1 ⟨rfl,rfl⟩;go_wp2;go_ret2;exact⟨rfl,(Ch.refl _ _).alloc _⟩
theorem SF (h:At w s F σ) (root:Int) (key:List UInt8) {vv:Value} {bs:List UInt8} (hb:Bytes w vv bs) (hl:bs.length≤1024) (hh:Az σ root≠0) :
 Calls Tryz.prog 60 #[.pointer (some ⟨s,0,none⟩),.int .i64 root,.agg (AS key),vv] w fun e w'=>e=.returned (.tuple #[.int .i64 0,.int .i64 (Az σ root)])∧AN w w':=by
 obtain⟨ao,cap,rfl,_⟩:=hb.form;obtain⟨K,hK⟩:∃K,K=AS key:=⟨_,rfl⟩
 rw[←hK];have a0:AN w (w.alloc (.cells K 47)):=(Ch.refl (fun _=>False) w).alloc _;have hr:=DU (h.adds a0);have ha:=Dn (h.adds a0) root;have hp:=D2 h;obtain⟨er,her⟩:∃x,x=Az σ root:=⟨_,rfl⟩
 rw[←her] at ha hh ⊢;have HR:=Lib.hid hr;have HA:=Lib.hid ha;have A0:=Lib.hid a0;clear hr h hK hb ha her a0;go_enter Tryz.func60,Tryz.ntmps60;go_wp2_with fail;refine HR.out.mono ?_;rintro e w1 ⟨rfl,rfl⟩;go_wp2_with fail;refine HA.out.mono ?_;rintro e w1 ⟨rfl,a1⟩;go_wp2;go_ret2;exact⟨rfl,A0.out.trans a1 (fun _=>fEq)⟩
theorem Ti (h:At w s F σ) (root:Int) (key:List UInt8) {vv:Value} {bs:List UInt8} (hb:Bytes w vv bs) (hl:bs.length≤1024) (hh:Az σ root=0) (hf:C9 σ 1=false) :
 Calls Tryz.prog 60 #[.pointer (some ⟨s,0,none⟩),.int .i64 root,.agg (AS key),vv] w fun e w'=>e=.returned (.tuple #[.int .i64 0,.int .i64 9])∧AN w w':=by
 obtain⟨ao,cap,rfl,_⟩:=hb.form;obtain⟨K,hK⟩:∃K,K=AS key:=⟨_,rfl⟩
 rw[←hK];have a0:AN w (w.alloc (.cells K 47)):=(Ch.refl (fun _=>False) w).alloc _;have hr:=DU (h.adds a0);have ha:=Dn (h.adds a0) root;have hft:=fun w1 (a:AN w w1)=>JZ (h.adds a) 1
 have hp:=D2 h;rw[hh] at ha;rw[hf] at hft;have HR:=Lib.hid hr;have HA:=Lib.hid ha;have A0:=Lib.hid a0;have HF:=Lib.hid hft;clear hr h hK hb ha a0 hft hf hh;go_enter Tryz.func60,Tryz.ntmps60;go_wp2_with fail;refine HR.out.mono ?_;rintro e w1 ⟨rfl,rfl⟩;go_wp2_with fail;refine HA.out.mono ?_;rintro e w1 ⟨rfl,a1⟩;have A1:=Lib.hid (A0.out.trans a1 (fun _=>fEq));clear a1;go_wp2_with fail;refine(HF.out _ A1.out).mono ?_;rintro e w2 ⟨rfl,rfl⟩;go_wp2;go_ret2;exact⟨rfl,A1.out⟩
theorem SN (h:At w s F σ) (GG:Good σ) (root:Int) (key:List UInt8) (hk:key.length=32) {vv:Value} {bs:List UInt8} (hb:Bytes w vv bs) (hl:bs.length≤1024) (hh:Az σ root=0) (hre:AX σ root=0) (hf:C9 σ 1=true)
 {l:List Int} {e1:Int} (ho:On (sk σ) key root 0 l e1) (hs:Dh σ key bs e1=true) :
 Calls Tryz.prog 60 #[.pointer (some ⟨s,0,none⟩),.int .i64 root,.agg (AS key),vv] w fun e w'=>e=.returned (.tuple #[.int .i64 root,.int .i64 0])∧AN w w':=by
 obtain⟨ao,cap,hvv,_⟩:=hb.form;obtain⟨K,hK⟩:∃K,K=AS key:=⟨_,rfl⟩
 have hKs:K.size=32:=by rw[hK,AU,hk]
 have a0:AN w (w.alloc (.cells K 47)):=(Ch.refl (fun _=>False) w).alloc _;have hr:=DU (h.adds a0);have ha:=Dn (h.adds a0) root;have hft:=fun w1 (a:AN w w1)=>JZ (h.adds a) 1
 have hfd:=fun w1 (a:AN w w1)=>MG (h.adds a) GG root key hk hre ho (hb.Ae a (fun _ _ h=>h))
 have hp:=D2 h;rw[hh] at ha;rw[hf] at hft;rw[hs, ←hK] at hfd;rw[←hK];have HR:=Lib.hid hr;have HA:=Lib.hid ha;have A0:=Lib.hid a0;have HF:=Lib.hid hft;have HFD:=Lib.hid hfd;have HK:=Lib.hid hKs;clear hr h hK hb ha a0 hft hf hh hfd hs ho GG hre hKs;subst hvv;go_enter Tryz.func60,Tryz.ntmps60;go_wp2_with fail;refine HR.out.mono ?_;rintro e w1 ⟨rfl,rfl⟩;go_wp2_with fail;refine HA.out.mono ?_;rintro e w1 ⟨rfl,a1⟩;have A1:=Lib.hid (A0.out.trans a1 (fun _=>fEq));have k1:=a1.row (heap_alloc_new w (.cells K 47)) id;have K1:=Lib.hid k1;clear a1 k1;go_wp2_with fail;refine(HF.out _ A1.out).mono ?_;rintro e w2 ⟨rfl,rfl⟩
 go_wp2_with (first
  | fail
  | ((with_reducible show zOq (.load 47 _));refine AJ rfl 47 _ rfl w.heap.size 0 rfl K1.out Tryz.underlying47 rfl Ab (by rw[HK.out];omega) K (by simp[←HK.out]) ?_))
 refine(HFD.out _ A1.out).mono ?_;rintro e w2 ⟨v,rfl,o2,a2⟩;obtain⟨ao2,cap2,rfl⟩:=Am o2;go_wp2_with fail;go_ret2;refine⟨rfl,?_⟩;have hb2:=A1.out.trans a2 (fun _=>fEq);have hsz:=hb2.size
 (repeat (first|with_reducible exact hb2|with_reducible exact Ch.refl _ _|with_reducible refine Ch.drew ?_|with_reducible refine Ch.drewN ?_ _|with_reducible refine Ch.alloc ?_ _|with_reducible refine Ch.setCell ?_ (by first|exact .inr (by simp<;>omega)|(left;simp;done)) _|with_reducible refine Ch.setRow ?_ (by first|exact .inr (by simp<;>omega)|(left;simp;done)) _))
def Gu (b0 pb:Nat) (K:Array Value) (ao:Option Addr) (cap:Nat) (l:List Int) (e1:Int) (x y:Bool) (w:World):Prop :=
 w.heap[pb]?=some (.cells #[.slice ao l.length cap,.int .i64 e1,.bool x,.bool y] 220 (0,0)) ∧
 w.heap[b0]?=some (.cells K 47 (0,0))∧w.ownsRow 0 3 1 (.slice ao l.length cap) l.length (hl l)
def Nc (G:Nat→Prop) (b0 pb:Nat) (ao:Option Addr) (n cap:Nat) (k:Nat):Prop:=G k∨k=b0∨k=pb∨(Value.slice ao n cap).ownBlock=some k
theorem Gu.but {b0 pb cap:Nat} {K:Array Value} {ao:Option Addr} {l:List Int} {e1:Int} {x y:Bool} {w w':World} (h:Gu b0 pb K ao cap l e1 x y w) (c:But (Nc G b0 pb ao l.length cap) w w'):Gu b0 pb K ao cap l e1 x y w' :=
 ⟨c.row h.1 (.inr (.inr (.inl rfl))),c.row h.2.1 (.inr (.inl rfl)),Ch.owns c h.2.2 (fun k hk hn=>hn (.inr (.inr (.inr hk))))⟩
theorem Gu.adds {b0 pb cap:Nat} {K:Array Value} {ao:Option Addr} {l:List Int} {e1:Int} {x y:Bool} {w w':World} (h:Gu b0 pb K ao cap l e1 x y w) (c:AN w w'):Gu b0 pb K ao cap l e1 x y w' :=
 ⟨c.row h.1 id,c.row h.2.1 id,c.owns h.2.2 (fun _ _ h=>h)⟩
theorem But.less {G':Nat→Prop} {w w':World} (h:But G' w w') (hG:∀k,G k→G' k):But G w w':=h.mono (fun k _ hn hg=>hn (hG k hg))
theorem Nx (key:List UInt8) (l:List Int) (σ:AG Nd) (now:Int) {j:Nat} {h:Int} (hj:l[j]?=some h) :
 upL key j (l.drop j) σ now=NU (upL key (j+1) (l.drop (j+1)) σ now).2 key h j (upL key (j+1) (l.drop (j+1)) σ now).1:=by
 obtain⟨hlt,rfl⟩:=List.getElem?_eq_some_iff.1 hj;rw[List.drop_eq_getElem_cons hlt];rfl
theorem LP {key value:List UInt8} {v:Value} {k:Int} {x:Nd×Nat} (hw:σ.WF (fun _=>True)) (hx:σ.get? k=some x):(As σ key value v).2.2.get? k=some x:=by
 unfold As;split
 · exact hx
 rcases FQ hw (Nd.leaf (Tag.D4 key (Tag.Bb value)) key (Tag.Bb value) value v) with⟨_,q2⟩|⟨m,q1,q2,q3,q4,q5,q6⟩
 · rw[q2];exact hx
 rw[q4,if_neg (fun e=>by rw[e,q3] at hx;cases hx)];exact hx
theorem QK (GG:Good σ) {key value:List UInt8} {v:Value} {e:Int} (hk:(nd σ e).kind=1):(nd (As σ key value v).2.2 e).key=(nd σ e).key:=by
 cases hx:σ.get? e with
 | none=>rw[B9 hx] at hk;exact absurd (show(0:Nat)=1 from hk) (by decide)
 | some x=>rw[Ap hx,Ap (LP GG.sound.wf hx)]
theorem PS {key bs:List UInt8} {e:Int} (h:B7 σ key e=false) (v:Value) (d:Nat):Eu σ key bs v d e=((As σ key bs v).1,(As σ key bs v).2.2):=by
 unfold Eu B7 at *;rw[if_neg];rintro⟨h1,h2⟩;simp[h1,h2] at h
theorem Eb {key:List UInt8} {e:Int} (h:B7 σ key e=true):(nd σ e).kind=1∧(nd σ e).key≠key:=by
 unfold B7 at h;simpa using h
theorem Nh {key bs:List UInt8} {e:Int} (h:B7 σ key e=true) (v:Value) (d:Nat):Eu σ key bs v d e =
 chainS key d (common key (nd σ e).key-d) (CY (Au (As σ key bs v).2.2 e).2 key (common key (nd σ e).key:Nat) (As σ key bs v).1 e).2.2 (CY (Au (As σ key bs v).2.2 e).2 key (common key (nd σ e).key:Nat) (As σ key bs v).1 e).1:=by
 unfold Eu;rw[if_pos (Eb h)]
theorem ES (GG:Good σ) {key:List UInt8} (hk:key.length=32) {root:Int} {l:List Int} {e:Int} (ho:On (sk σ) key root 0 l e) (h:B7 σ key e=true):l.length≤common key (nd σ e).key∧common key (nd σ e).key<256∧(nd σ e).key.length=32:=by
 obtain⟨h1,h2⟩:=Eb h
 obtain⟨x,hx⟩:∃x,sk σ e=some x:=by
  cases hx:sk σ e with
  | none=>rw[Jh hx] at h1;omega
  | some x=>exact⟨x,rfl⟩
 rw[Ho hx] at h2 ⊢;have xl:x.key.length=32:=(GG.fit.all _ _ hx).key;have hp:=ho.pre GG.fit (fun _ _ _ h=>absurd h (Nat.not_lt_zero _)) x hx;rw[Nat.zero_add] at hp;have hl:=ho.len GG.fit (by omega);refine⟨Cz hk xl (by omega) hp.symm,?_,xl⟩;have:=(CA key x.key (by omega) (Ne.symm h2)).1;omega
theorem Vt (h:Ow w0 w s σ G) (GG:Good σ) (root:Int) (key:List UInt8) (hk:key.length=32) {vv:Value} {bs:List UInt8} (hb:Bytes w vv bs) (hv:bs ≠ []→∀k,vv.ownBlock=some k→k<w.heap.size) (hl:bs.length≤1024) (hh:Az σ root=0) (hre:AX σ root=0) (hf:C9 σ 1=true)
 {l:List Int} {e1:Int} (ho:On (sk σ) key root 0 l e1) (hs:Dh σ key bs e1=false) :
 Calls Tryz.prog 60 #[.pointer (some ⟨s,0,none⟩),.int .i64 root,.agg (AS key),vv] w fun e w'=>∃v,e=.returned (.tuple #[.int .i64 (Fv σ root key bs v l e1).1,.int .i64 0])∧Ow w0 w' s (Fv σ root key bs v l e1).2 G∧But G w w':=by
 obtain⟨F,hAt⟩:=h.at;obtain⟨ao,cap,hvv,_⟩:=hb.form;obtain⟨K,hK⟩:∃K,K=AS key:=⟨_,rfl⟩
 have hKs:K.size=32:=by rw[hK,AU,hk]
 have a0:AN w (w.alloc (.cells K 47)):=(Ch.refl (fun _=>False) w).alloc _;have hr:=DU (hAt.adds a0);have ha:=Dn (hAt.adds a0) root;have hft:=fun w1 (a:AN w w1)=>JZ (hAt.adds a) 1
 have hfd:=fun w1 (a:AN w w1)=>MG (hAt.adds a) GG root key hk hre ho (hb.Ae a (fun _ _ h=>h))
 have hp:=D2 hAt;rw[hh] at ha;rw[hf] at hft;rw[hs, ←hK] at hfd;have hll:l.length≤256:=by have:=ho.len GG.fit (by omega);omega
 rw[←hK];obtain⟨ot,hot⟩:∃x,x=B7 σ key e1:=⟨_,rfl⟩
 rw[←hot] at hfd;have HR:=Lib.hid hr;have HA:=Lib.hid ha;have A0:=Lib.hid a0;have HF:=Lib.hid hft;have HFD:=Lib.hid hfd;have HK:=Lib.hid hKs;have HKK:=Lib.hid hK;have HB:=Lib.hid hb;have HV:=Lib.hid hv;have HO:=Lib.hid h;have HG:=Lib.hid GG;have HON:=Lib.hid ho;have HOT:=Lib.hid hot;clear hr hAt hK hb ha a0 hft hf hh hfd hs ho GG hre hKs hot h hv;subst hvv;go_enter Tryz.func60,Tryz.ntmps60;go_wp2_with fail;refine HR.out.mono ?_;rintro e w1 ⟨rfl,rfl⟩;go_wp2_with fail;refine HA.out.mono ?_;rintro e w1 ⟨rfl,a1⟩;have A1:=Lib.hid (A0.out.trans a1 (fun _=>fEq));have k1:=a1.row (heap_alloc_new w (.cells K 47)) id;have K1:=Lib.hid k1;clear a1 k1;go_wp2_with fail;refine(HF.out _ A1.out).mono ?_;rintro e w2 ⟨rfl,rfl⟩
 go_wp2_with (first
  | fail
  | ((with_reducible show zOq (.load 47 _));refine AJ rfl 47 _ rfl w.heap.size 0 rfl K1.out Tryz.underlying47 rfl Ab (by rw[HK.out];omega) K (by simp[←HK.out]) ?_))
 refine(HFD.out _ A1.out).mono ?_;rintro e w2 ⟨v2,rfl,o2,a2⟩;obtain⟨ao2,cap2,rfl⟩:=Am o2;have H2:=(hIq o2 a2)
 clear o2 a2
 go_upto_region 13 with(first
  | fail
  | ((with_reducible show zOq (.store 220 _ _));refine AI rfl 220 _ _ rfl w2.heap.size 0 #[.slice ao2 l.length cap2,.int .i64 e1,.bool false,.bool ot] rfl rfl (heap_alloc_new _ _) EW (by simp) (by simp[Value.oneCell']) #[.slice ao2 l.length cap2,.int .i64 e1,.bool false,.bool ot] (by simp[splice]) ?_))
 obtain⟨w3,hw3⟩:∃w3,w3=(w2.alloc (.cells #[.slice none 0 0,.int .i64 0,.bool false,.bool false] 220)).setRow w2.heap.size #[.slice ao2 l.length cap2,.int .i64 e1,.bool false,.bool ot]:=⟨_,rfl⟩
 rw[←hw3];have k2:=H2.out.2.row K1.out id;have b12:=A1.out.trans H2.out.2 (fun _=>fEq);have z1:=A1.out.size;have z2:=H2.out.2.size;have z3:=Ad k2;have ad3:AN w2 w3:=by rw[hw3];exact((Ch.refl _ _).alloc _).setRow (.inr (Nat.le_refl _)) _
 have zs3:w3.heap.size=w2.heap.size+1:=by rw[hw3];simp
 have pa:Gu w.heap.size w2.heap.size K ao2 cap2 l e1 false ot w3:=by
  refine⟨?_,ad3.row k2 id,(ad3.owns H2.out.1 (fun _ _ h=>h)).base (fun _ _=>Nat.zero_le _)⟩;rw[hw3];exact AK (heap_alloc_new _ _) _
 have aw3:AN w w3:=b12.trans ad3 (fun _=>fEq)
 have o3:Ow w0 w3 s σ (Nc G w.heap.size w2.heap.size ao2 l.length cap2):=HO.out.more aw3 (fun k hk=>by
  rcases hk with hk|rfl|rfl|hk
  · exact .inl hk
  · exact .inr ⟨Nat.le_refl _,by omega⟩
  · exact .inr ⟨by omega,by omega⟩
  have:=H2.out.1.lt k hk;exact .inr ⟨by omega,by omega⟩)
 have H3:=(hIq pa (aIq aw3 o3))
 have lf:=o3.leaf key hk (HB.out.Ae aw3 (fun _ _ h=>h)) (fun h0 k hk=>Nat.lt_of_lt_of_le (HV.out h0 k hk) aw3.size);rw[←HKK.out] at lf;have HL:=Lib.hid lf;clear hw3 k2 b12 z1 z2 z3 ad3 zs3 pa aw3 o3 lf K1 H2 A1 A0 HFD HF HR HA HO
 go_wp2_with (first
  | fail
  | ((with_reducible show zOq (.load 47 _));refine AJ rfl 47 _ rfl w.heap.size 0 rfl H3.out.1.2.1 Tryz.underlying47 rfl Ab (by rw[HK.out];omega) K (by simp[←HK.out]) ?_))
 refine HL.out.mono ?_;rintro e w4 ⟨v,rfl,o4,b4⟩;have H4:=(hIq (H3.out.1.but b4) (aIq o4 b4))
 obtain⟨n1,hn1⟩:∃x,x=(As σ key bs v).1:=⟨_,rfl⟩
 obtain⟨er1,her1⟩:∃x,x=(As σ key bs v).2.1:=⟨_,rfl⟩
 rw[←hn1, ←her1];have HN1:=Lib.hid hn1;clear o4 b4 hn1 her1 HL;have p4:=H4.out.1.1;have q3:=AH p4 (i:=3) rfl;clear p4;go_upto_if 51 with fail;go_cut [12] (fun s12 wx=>s12=.int .i64 (Eu σ key bs v l.length e1).1∧Ow w0 wx s (Eu σ key bs v l.length e1).2 (Nc G w.heap.size w2.heap.size ao2 l.length cap2)∧But (Nc G w.heap.size w2.heap.size ao2 l.length cap2) w3 wx)
 case first =>
  cases ot with
  | false =>
   go_wp2_with fail;go_meet;rw[PS HOT.out.symm, ←HN1.out];exact⟨rfl,H4.out.2.1,H4.out.2.2⟩
  | true =>
   obtain⟨hcl,hc256,hkl2⟩:=ES HG.out hk HON.out HOT.out.symm;have hky:=QK HG.out (key:=key) (value:=bs) (v:=v) (Eb HOT.out.symm).1;have hE:=Nh (bs:=bs) HOT.out.symm v l.length;obtain⟨τ,hτ⟩:∃x,x=(As σ key bs v).2.2:=⟨_,rfl⟩
   rw[←HN1.out, ←hτ] at hE;rw[←hτ] at H4 hky;have hcm:=fun w1=>CX key (nd σ e1).key hk hkl2 w1
   obtain⟨c,hc⟩:∃x,x=common key (nd σ e1).key:=⟨_,rfl⟩
   rw[←hc] at hcl hc256 hcm hE;obtain⟨K2,hK2⟩:∃x,x=AS (nd σ e1).key:=⟨_,rfl⟩
   have hkc:∀w1,AN w4 w1→Calls Tryz.prog 129 #[.pointer (some ⟨s,0,none⟩),.int .i64 e1] w1 fun e w'=>e=.returned (.agg K2)∧AN w1 w':=fun w1 a=>by
    obtain⟨F,hF⟩:=(H4.out.2.1.adds a).at;have:=I3 hF e1;rw[hky, ←hK2] at this;exact this
   rw[←hK2, ←HKK.out] at hcm;have HC:=Lib.hid hcm;have HE:=Lib.hid hE;clear hE;have HKC:=Lib.hid hkc;have HCB:=(hIq hcl hc256)
   clear hcm hkc hcl hc256 hkl2 hky hτ hc hK2 hp;go_wp2_with fail;refine AP (fun w0=>Gu w.heap.size w2.heap.size K ao2 cap2 l e1 false true w0) 6 [(0,false),(1,false),(2,false),(3,false),(4,true),(5,true)] (by kernel_rfl) (by kernel_rfl) ?_ ?_
   · exact H4.out.1.adds (Ch.refl _ _).drew
   refine Aa (cur:=K) (t:=47) (fr:=(0,0)) rfl rfl 47 (.tmp 6) rfl w.heap.size 0 32 rfl (fun w0 hS=>hS.2.1) Tryz.underlying47 rfl Ab (by rw[HK.out];omega) K (by simp[←HK.out]) ?_;simp only[Act.put,nAq,nBq,nCq]
   iterate 2
    iterate 1 refine plan_look rfl rfl (fun w0 hS=>(by go_simp;try rfl)) ?_
    simp only[Act.put,nAq,nBq,nCq]
   refine plan_look (v:=.int .i64 e1) rfl rfl (fun w0 hS=>(by have q1:=AH hS.1 (i:=1) rfl;clear hS;go_simp;try rfl)) ?_;simp only[Act.put,nAq,nBq,nCq];refine AW rfl ?_;go_wp2_with fail;refine(HKC.out _ (Ch.refl _ _).drew).mono ?_;rintro e w5 ⟨rfl,a5⟩;have a5':AN w4 w5:=((Ch.refl _ _).drew).trans a5 (fun _=>fEq);have H5:=(hIq (H4.out.1.adds a5') a5')
   clear a5 a5';dsimp only;go_step;refine wpList_nil ?_;change _∧_;refine⟨H5.out.1,?_⟩;refine AW rfl ?_;go_wp2_with fail;refine(HC.out _).mono ?_;rintro e w6 ⟨rfl,a6⟩;have a6':AN w4 w6:=H5.out.2.trans a6 (fun _=>fEq);have H6:=(hIq (H4.out.1.adds a6') (aIq (H4.out.2.1.adds a6') (H4.out.2.2.then (AN.but a6'))))
   clear a6 a6' H5;dsimp only;go_step;refine wpList_nil ?_;change _∧_;refine⟨H6.out.1,?_⟩;refine AZ ?_;simp only[List.drop_succ_cons,List.drop_zero];go_wp2;refine NoPanic.normal ?_;have q1:=AH H6.out.1.1 (i:=1) rfl;go_wp2_with fail;refine(H6.out.2.1.hold e1).mono ?_;rintro e w7 ⟨rfl,o7,b7⟩;have H7:=(hIq (H6.out.1.but b7) (aIq o7 (H6.out.2.2.then b7)))
   clear o7 b7 H6 q1;have q1:=AH H7.out.1.1 (i:=1) rfl;have hj:=Ga H7.out.2.1 (c:Nat) key hk n1 e1;rw[←HKK.out] at hj;have HJ:=Lib.hid hj;clear hj
   go_wp2_with (first
    | fail
    | ((with_reducible show zOq (.load 47 _));refine AJ rfl 47 _ rfl w.heap.size 0 rfl H7.out.1.2.1 Tryz.underlying47 rfl Ab (by rw[HK.out];omega) K (by simp[←HK.out]) ?_))
   refine HJ.out.mono ?_;rintro e w8 ⟨rfl,o8,b8⟩;have H8:=(hIq (H7.out.1.but b8) (aIq o8 (H7.out.2.2.then b8)))
   clear o8 b8 H7 q1 HJ;obtain⟨n2,hn2⟩:∃x,x=(CY (Au τ e1).2 key (c:Nat) n1 e1).1:=⟨_,rfl⟩
   obtain⟨τ2,hτ2⟩:∃x,x=(CY (Au τ e1).2 key (c:Nat) n1 e1).2.2:=⟨_,rfl⟩
   rw[←hn2];have hE:=HE.out;rw[←hn2, ←hτ2] at hE;rw[←hτ2] at H8;have HE2:=Lib.hid hE;have hc1:=HCB.out.1;have hc2:=HCB.out.2;clear hE hn2 hτ2 HE q3;go_wp2_with fail
   go_loopg [12,15] (c-l.length) (fun g s12 s15 wr=>∃(τ':AG Nd) (now x:Int),s12=.int .i64 now∧s15=.int .i64 x∧x=(l.length:Int)+g-1∧g≤256∧Eu σ key bs v l.length e1=chainS key l.length g τ' now ∧
    Ow w0 wr s τ' (Nc G w.heap.size w2.heap.size ao2 l.length cap2)∧But (Nc G w.heap.size w2.heap.size ao2 l.length cap2) w3 wr)
   case atStart=>exact⟨τ2,n2,_,rfl,rfl,by omega,by omega,HE2.out,H8.out.2.1,H8.out.2.2⟩
   obtain⟨τ',now,x,rfl,rfl,hx,hg,hch,hO,hB⟩:=hrel;have HP:=Lib.hid (H3.out.1.but hB);have HOB:=(hIq hO hB)
   have HCH:=Lib.hid hch;clear hO hB hch;have q0:=AH HP.out.1 (i:=0) rfl;rcases Nat.eq_zero_or_pos gk with h0|h0
   · subst h0
     have hx1:decide ((l.length:Int)≤x)=false:=decide_eq_false (by omega);clear hx;go_wp2_with fail;go_meet;exact⟨by rw[HCH.out];rfl,by rw[HCH.out];exact HOB.out.1,HOB.out.2⟩
   obtain⟨j,rfl⟩:∃j,gk=j+1:=⟨gk-1,by omega⟩
   have hx1:decide ((l.length:Int)≤x)=true:=decide_eq_true (by omega);have hjj:=Ga HOB.out.1 (l.length+j:Nat) key hk now 0;have hxe:((l.length+j:Nat):Int)=x:=by omega
   rw[←HKK.out,hxe] at hjj;have HJ:=Lib.hid hjj;have HX:=(hIq hx hxe)
   have hxl:0≤x∧x≤600:=by omega
   obtain⟨hx0,hx6⟩:=hxl;clear hjj hx hxe
   go_wp2_with (first
    | fail
    | ((with_reducible show zOq (.load 47 _));refine AJ rfl 47 _ rfl w.heap.size 0 rfl HP.out.2.1 Tryz.underlying47 rfl Ab (by rw[HK.out];omega) K (by simp[←HK.out]) ?_))
   refine HJ.out.mono ?_;rintro e w9 ⟨rfl,o9,b9⟩;have H9:=(hIq o9 (HOB.out.2.then b9))
   clear o9 b9;have hch:=HCH.out;rw[show chainS key l.length (j+1) τ' now=chainS key l.length j (CY τ' key (l.length+j:Nat) now 0).2.2 (CY τ' key (l.length+j:Nat) now 0).1 from rfl,HX.out.2] at hch;have HCH2:=Lib.hid hch;clear hch;go_wp2_with fail;go_roundg j
   case measure=>omega
   exact⟨_,_,_,rfl,rfl,by have:=HX.out.1;omega,by omega,HCH2.out,H9.out.1,H9.out.2⟩
 obtain⟨rfl,hO,hB⟩:=hcut;obtain⟨n3,hn3⟩:∃x,x=(Eu σ key bs v l.length e1).1:=⟨_,rfl⟩
 obtain⟨τ3,hτ3⟩:∃x,x=(Eu σ key bs v l.length e1).2:=⟨_,rfl⟩
 rw[←hn3];rw[←hτ3] at hO;have hmade:E9 σ key bs v l e1=upL key 0 (l.drop 0) τ3 n3:=by rw[hn3,hτ3];rfl
 have HM:=Lib.hid hmade;have HPc:=Lib.hid (H3.out.1.but hB);have HOB:=(hIq hO hB)
 clear hmade hn3 hτ3 hO hB H4 HN1 q3;have q0:=AH HPc.out.1 (i:=0) rfl;go_wp2_with fail
 go_loopg [12,16,17,18,19] l.length (fun g s12 s16 s17 s18 s19 wr=>∃x:Int,s12=.int .i64 (upL key g (l.drop g) τ3 n3).1∧s16=.int .i64 x∧x=(g:Int)-1∧g≤l.length ∧
  Ow w0 wr s (upL key g (l.drop g) τ3 n3).2 (Nc G w.heap.size w2.heap.size ao2 l.length cap2)∧But (Nc G w.heap.size w2.heap.size ao2 l.length cap2) w3 wr)
 case atStart=>exact⟨_,by rw[List.drop_length];rfl,rfl,rfl,Nat.le_refl _,by rw[List.drop_length];exact HOB.out.1,HOB.out.2⟩
 obtain⟨x,hs12,rfl,hx,hg,hO,hB⟩:=hrel;clear q0;have HP:=Lib.hid (H3.out.1.but hB);rcases Nat.eq_zero_or_pos gk with h0|h0
 · subst h0
   have hx1:decide ((0:Int)≤x)=false:=decide_eq_false (by omega);clear hx;rw[←HM.out] at hs12 hO;obtain⟨n4,hn4⟩:∃x,x=(E9 σ key bs v l e1).1:=⟨_,rfl⟩
   obtain⟨τ4,hτ4⟩:∃x,x=(E9 σ key bs v l e1).2:=⟨_,rfl⟩
   rw[←hn4] at hs12;rw[←hτ4] at hO;subst hs12;have HX:=(hIq hn4 hτ4)
   have HO4:=(hIq hO hB)
   clear hn4 hτ4 hO hB HOB HM;by_cases hr0:root=0
   · have e1':(root != 0)=false:=by simpa using hr0
     go_wp2_with fail;go_ret2;refine⟨v,?_,?_,?_⟩
     · unfold Fv
       rw[←HX.out.1];rfl
     · unfold Fv
       simp only;rw[if_neg (by simpa using hr0), ←HX.out.2];exact HO4.out.1.less (fun k hk=>.inl hk)
     exact(AN.but H3.out.2.1).then (HO4.out.2.less (fun k hk=>.inl hk))
   have e1':(root != 0)=true:=by simpa using hr0
   go_wp2_with fail;refine(HO4.out.1.drop root).mono ?_;rintro e w9 ⟨rfl,o9,b9⟩;have H9:=(hIq o9 (HO4.out.2.then b9))
   clear o9 b9;go_wp2_with fail;go_ret2;refine⟨v,?_,?_,?_⟩
   · unfold Fv
     rw[←HX.out.1];rfl
   · unfold Fv
     simp only;rw[if_pos hr0, ←HX.out.2];exact H9.out.1.less (fun k hk=>.inl hk)
   exact(AN.but H3.out.2.1).then (H9.out.2.less (fun k hk=>.inl hk))
 obtain⟨j,rfl⟩:∃j,gk=j+1:=⟨gk-1,by omega⟩
 have hxe:x=(j:Int):=by omega
 subst hxe;have hlt:j<l.length:=by omega
 have hlti:(j:Int)<(l.length:Int):=by omega
 obtain⟨h1,hget⟩:∃h1,l[j]?=some h1:=⟨_,List.getElem?_eq_getElem hlt⟩
 have hU:=Nx key l τ3 n3 hget;obtain⟨now,hnow⟩:∃x,x=(upL key (j+1) (l.drop (j+1)) τ3 n3).1:=⟨_,rfl⟩
 obtain⟨τ',hτ'⟩:∃x,x=(upL key (j+1) (l.drop (j+1)) τ3 n3).2:=⟨_,rfl⟩
 rw[←hnow] at hs12 hU;rw[←hτ'] at hO hU;subst hs12
 obtain⟨g0,hao⟩:∃g0,ao2=some ⟨g0,0,none⟩:=by
  obtain⟨_,h|⟨g0,cap',cur,h,_⟩⟩:=HP.out.2.2
  · exact absurd h.2 (by omega)
  injection h with h _ _;exact⟨g0,h⟩
 subst hao
 have hcell:wr.cell? ⟨g0,j,none⟩=some (.int .i64 h1):=by
  rw[HP.out.2.2.cellAt j (by omega)];unfold Store.hl;rw[List.getElem?_map,hget];rfl
 obtain⟨F',hF'⟩:=hO.at;have hsd:=GU hF' h1;have hbt:=fun w1=>Iy key hk (j:Nat) w1
 unfold NU DB at hU;obtain⟨lf,hlf⟩:∃x,x=(nd τ' h1).left:=⟨_,rfl⟩
 obtain⟨rg,hrg⟩:∃x,x=(nd τ' h1).right:=⟨_,rfl⟩
 obtain⟨bt,hbb⟩:∃x,x=bit key (j:Nat):=⟨_,rfl⟩
 rw[←hlf, ←hrg] at hsd hU;rw[←hbb, ←HKK.out] at hbt;rw[←hbb] at hU;have HSD:=Lib.hid hsd;have HBT:=Lib.hid hbt;have HU:=Lib.hid hU;have HOB':=(hIq hO hB)
 have hjl:(j:Int)≤256:=by omega
 have q0:=AH HP.out.1 (i:=0) rfl;clear hsd hbt hU hO hB hnow hτ' hF' hlf hrg hbb hget hx HOB HM HPc hg h0;by_cases hb1:bt=1
 · by_cases hz:lf=0
   · have hU:=HU.out
     rw[if_pos hb1] at hU;have eb:(bt == 1)=true:=by simpa using hb1
     have eo:(lf != 0)=false:=by simpa using hz
     have ehs:Bt τ' lf=τ':=by unfold Bt;rw[if_neg (by simpa using hz)]
     rw[ehs] at hU;have HU2:=Lib.hid hU;clear ehs hU hb1 hz;go_wp2_with fail;refine HSD.out.mono ?_;rintro e w5 ⟨rfl,a5⟩;have H5:=(hIq (HP.out.adds a5) (aIq (HOB'.out.1.adds a5) (HOB'.out.2.then (AN.but a5))))
     clear a5
     go_wp2_with (first
      | fail
      | ((with_reducible show zOq (.load 47 _));refine AJ rfl 47 _ rfl w.heap.size 0 rfl H5.out.1.2.1 Tryz.underlying47 rfl Ab (by rw[HK.out];omega) K (by simp[←HK.out]) ?_))
     refine(HBT.out _).mono ?_;rintro e w6 ⟨rfl,a6⟩;have H6:=(hIq (H5.out.1.adds a6) (aIq (H5.out.2.1.adds a6) (H5.out.2.2.then (AN.but a6))))
     clear a6;have hjj:=Ga H6.out.2.1 (j:Nat) key hk now lf;rw[←HKK.out] at hjj;have HJ:=Lib.hid hjj;clear hjj
     go_wp2_with (first
      | fail
      | ((with_reducible show zOq (.load 47 _));refine AJ rfl 47 _ rfl w.heap.size 0 rfl H6.out.1.2.1 Tryz.underlying47 rfl Ab (by rw[HK.out];omega) K (by simp[←HK.out]) ?_))
     refine HJ.out.mono ?_;rintro e w9 ⟨rfl,o9,b9⟩;have H9:=(hIq o9 (H6.out.2.2.then b9))
     clear o9 b9;go_wp2_with fail;go_roundg j
     case measure=>omega
     exact⟨_,by rw[HU2.out],rfl,rfl,by omega,by rw[HU2.out];exact H9.out.1,H9.out.2⟩
   have hU:=HU.out;rw[if_pos hb1] at hU;have eb:(bt == 1)=true:=by simpa using hb1
   have eo:(lf != 0)=true:=by simpa using hz
   have ehs:Bt τ' lf=(Au τ' lf).2:=by unfold Bt;rw[if_pos hz]
   rw[ehs] at hU;have HU2:=Lib.hid hU;clear ehs hU hb1 hz;go_wp2_with fail;refine HSD.out.mono ?_;rintro e w5 ⟨rfl,a5⟩;have H5:=(hIq (HP.out.adds a5) (aIq (HOB'.out.1.adds a5) (HOB'.out.2.then (AN.but a5))))
   clear a5
   go_wp2_with (first
    | fail
    | ((with_reducible show zOq (.load 47 _));refine AJ rfl 47 _ rfl w.heap.size 0 rfl H5.out.1.2.1 Tryz.underlying47 rfl Ab (by rw[HK.out];omega) K (by simp[←HK.out]) ?_))
   refine(HBT.out _).mono ?_;rintro e w6 ⟨rfl,a6⟩;have H6:=(hIq (H5.out.1.adds a6) (aIq (H5.out.2.1.adds a6) (H5.out.2.2.then (AN.but a6))))
   clear a6;go_wp2_with fail;refine(H6.out.2.1.hold lf).mono ?_;rintro e w7 ⟨rfl,o7,b7⟩;have H7:=(hIq (H6.out.1.but b7) (aIq o7 (H6.out.2.2.then b7)))
   clear o7 b7;have hjj:=Ga H7.out.2.1 (j:Nat) key hk now lf;rw[←HKK.out] at hjj;have HJ:=Lib.hid hjj;clear hjj
   go_wp2_with (first
    | fail
    | ((with_reducible show zOq (.load 47 _));refine AJ rfl 47 _ rfl w.heap.size 0 rfl H7.out.1.2.1 Tryz.underlying47 rfl Ab (by rw[HK.out];omega) K (by simp[←HK.out]) ?_))
   refine HJ.out.mono ?_;rintro e w9 ⟨rfl,o9,b9⟩;have H9:=(hIq o9 (H7.out.2.2.then b9))
   clear o9 b9;go_wp2_with fail;go_roundg j
   case measure=>omega
   exact⟨_,by rw[HU2.out],rfl,rfl,by omega,by rw[HU2.out];exact H9.out.1,H9.out.2⟩
 by_cases hz:rg=0
 · have hU:=HU.out
   rw[if_neg hb1] at hU;have eb:(bt == 1)=false:=by simpa using hb1
   have eo:(rg != 0)=false:=by simpa using hz
   have ehs:Bt τ' rg=τ':=by unfold Bt;rw[if_neg (by simpa using hz)]
   rw[ehs] at hU;have HU2:=Lib.hid hU;clear ehs hU hb1 hz;go_wp2_with fail;refine HSD.out.mono ?_;rintro e w5 ⟨rfl,a5⟩;have H5:=(hIq (HP.out.adds a5) (aIq (HOB'.out.1.adds a5) (HOB'.out.2.then (AN.but a5))))
   clear a5
   go_wp2_with (first
    | fail
    | ((with_reducible show zOq (.load 47 _));refine AJ rfl 47 _ rfl w.heap.size 0 rfl H5.out.1.2.1 Tryz.underlying47 rfl Ab (by rw[HK.out];omega) K (by simp[←HK.out]) ?_))
   refine(HBT.out _).mono ?_;rintro e w6 ⟨rfl,a6⟩;have H6:=(hIq (H5.out.1.adds a6) (aIq (H5.out.2.1.adds a6) (H5.out.2.2.then (AN.but a6))))
   clear a6;have hjj:=Ga H6.out.2.1 (j:Nat) key hk now rg;rw[←HKK.out] at hjj;have HJ:=Lib.hid hjj;clear hjj
   go_wp2_with (first
    | fail
    | ((with_reducible show zOq (.load 47 _));refine AJ rfl 47 _ rfl w.heap.size 0 rfl H6.out.1.2.1 Tryz.underlying47 rfl Ab (by rw[HK.out];omega) K (by simp[←HK.out]) ?_))
   refine HJ.out.mono ?_;rintro e w9 ⟨rfl,o9,b9⟩;have H9:=(hIq o9 (H6.out.2.2.then b9))
   clear o9 b9;go_wp2_with fail;go_roundg j
   case measure=>omega
   exact⟨_,by rw[HU2.out],rfl,rfl,by omega,by rw[HU2.out];exact H9.out.1,H9.out.2⟩
 have hU:=HU.out;rw[if_neg hb1] at hU;have eb:(bt == 1)=false:=by simpa using hb1
 have eo:(rg != 0)=true:=by simpa using hz
 have ehs:Bt τ' rg=(Au τ' rg).2:=by unfold Bt;rw[if_pos hz]
 rw[ehs] at hU;have HU2:=Lib.hid hU;clear ehs hU hb1 hz;go_wp2_with fail;refine HSD.out.mono ?_;rintro e w5 ⟨rfl,a5⟩;have H5:=(hIq (HP.out.adds a5) (aIq (HOB'.out.1.adds a5) (HOB'.out.2.then (AN.but a5))))
 clear a5
 go_wp2_with (first
  | fail
  | ((with_reducible show zOq (.load 47 _));refine AJ rfl 47 _ rfl w.heap.size 0 rfl H5.out.1.2.1 Tryz.underlying47 rfl Ab (by rw[HK.out];omega) K (by simp[←HK.out]) ?_))
 refine(HBT.out _).mono ?_;rintro e w6 ⟨rfl,a6⟩;have H6:=(hIq (H5.out.1.adds a6) (aIq (H5.out.2.1.adds a6) (H5.out.2.2.then (AN.but a6))))
 clear a6;go_wp2_with fail;refine(H6.out.2.1.hold rg).mono ?_;rintro e w7 ⟨rfl,o7,b7⟩;have H7:=(hIq (H6.out.1.but b7) (aIq o7 (H6.out.2.2.then b7)))
 clear o7 b7;have hjj:=Ga H7.out.2.1 (j:Nat) key hk now rg;rw[←HKK.out] at hjj;have HJ:=Lib.hid hjj;clear hjj
 go_wp2_with (first
  | fail
  | ((with_reducible show zOq (.load 47 _));refine AJ rfl 47 _ rfl w.heap.size 0 rfl H7.out.1.2.1 Tryz.underlying47 rfl Ab (by rw[HK.out];omega) K (by simp[←HK.out]) ?_))
 refine HJ.out.mono ?_;rintro e w9 ⟨rfl,o9,b9⟩;have H9:=(hIq o9 (H7.out.2.2.then b9))
 clear o9 b9;go_wp2_with fail;go_roundg j
 case measure=>omega
 exact⟨_,by rw[HU2.out],rfl,rfl,by omega,by rw[HU2.out];exact H9.out.1,H9.out.2⟩
end
section
variable {w0 w : World} {s : Nat} {σ : AG Nd} {F G : Nat→Prop}
theorem Hh {key:List UInt8} {l:List Int} {e:Int} (h:B7 σ key e=false):Ci σ key l e=l.length+1:=by
 unfold Ci El B7 at *;rw[if_neg]
 · omega
 rintro⟨h1,h2⟩;simp[h1,h2] at h
theorem JJ {key:List UInt8} {l:List Int} {e:Int} (h:B7 σ key e=true) (hl:l.length≤common key (nd σ e).key):Ci σ key l e=common key (nd σ e).key+2:=by
 unfold Ci El;rw[if_pos (Eb h)];omega
theorem Ue (hAt:At w s F σ) (GG:Good σ) (root:Int) (key:List UInt8) (hk:key.length=32) {vv:Value} {bs:List UInt8} (hb:Bytes w vv bs) (hl:bs.length≤1024) (hh:Az σ root=0) (hre:AX σ root=0)
 {l:List Int} {e1:Int} (ho:On (sk σ) key root 0 l e1) :
 Calls Tryz.prog 227 #[.pointer (some ⟨s,0,none⟩),.int .i64 root,.agg (AS key),vv] w fun e w'=>e=.returned (.tuple #[.int .i64 (if Dh σ key bs e1=true then 0 else (Ci σ key l e1:Nat)),.int .i64 0])∧AN w w':=by
 obtain⟨ao,cap,hvv,_⟩:=hb.form;obtain⟨K,hK⟩:∃K,K=AS key:=⟨_,rfl⟩
 have hKs:K.size=32:=by rw[hK,AU,hk]
 have a0:AN w (w.alloc (.cells K 47)):=(Ch.refl (fun _=>False) w).alloc _;have hr:=DU (hAt.adds a0);have ha:=Dn (hAt.adds a0) root;have hfd:=fun w1 (a:AN w w1)=>MG (hAt.adds a) GG root key hk hre ho (hb.Ae a (fun _ _ h=>h))
 have hp:=D2 hAt;rw[hh] at ha;rw[←hK] at hfd;have hll:l.length≤256:=by have:=ho.len GG.fit (by omega);omega
 rw[←hK];obtain⟨ot,hot⟩:∃x,x=B7 σ key e1:=⟨_,rfl⟩
 obtain⟨sm,hsm⟩:∃x,x=Dh σ key bs e1:=⟨_,rfl⟩
 rw[←hot, ←hsm] at hfd;rw[←hsm];have HR:=Lib.hid hr;have HA:=Lib.hid ha;have A0:=Lib.hid a0;have HFD:=Lib.hid hfd;have HK:=Lib.hid hKs;have HKK:=Lib.hid hK;have HT:=Lib.hid hAt;have HG:=Lib.hid GG;have HON:=Lib.hid ho;have HOT:=Lib.hid hot;clear hr hAt hK hb ha a0 hh hfd ho GG hre hKs hot hsm;subst hvv;go_enter Tryz.func227,Tryz.ntmps227;go_wp2_with fail;refine HR.out.mono ?_;rintro e w1 ⟨rfl,rfl⟩;go_wp2_with fail;refine HA.out.mono ?_;rintro e w1 ⟨rfl,a1⟩;have A1:=Lib.hid (A0.out.trans a1 (fun _=>fEq));have k1:=a1.row (heap_alloc_new w (.cells K 47)) id;have K1:=Lib.hid k1;clear a1 k1
 go_wp2_with (first
  | fail
  | ((with_reducible show zOq (.load 47 _));refine AJ rfl 47 _ rfl w.heap.size 0 rfl K1.out Tryz.underlying47 rfl Ab (by rw[HK.out];omega) K (by simp[←HK.out]) ?_))
 refine(HFD.out _ A1.out).mono ?_;rintro e w2 ⟨v2,rfl,o2,a2⟩;obtain⟨ao2,cap2,rfl⟩:=Am o2;have H2:=(hIq o2 a2)
 clear o2 a2
 go_upto_region 9 with(first
  | fail
  | ((with_reducible show zOq (.store 220 _ _));refine AI rfl 220 _ _ rfl w2.heap.size 0 #[.slice ao2 l.length cap2,.int .i64 e1,.bool sm,.bool ot] rfl rfl (heap_alloc_new _ _) EW (by simp) (by simp[Value.oneCell']) #[.slice ao2 l.length cap2,.int .i64 e1,.bool sm,.bool ot] (by simp[splice]) ?_))
 obtain⟨w3,hw3⟩:∃w3,w3=(w2.alloc (.cells #[.slice none 0 0,.int .i64 0,.bool false,.bool false] 220)).setRow w2.heap.size #[.slice ao2 l.length cap2,.int .i64 e1,.bool sm,.bool ot]:=⟨_,rfl⟩
 rw[←hw3];have k2:=H2.out.2.row K1.out id;have b12:=A1.out.trans H2.out.2 (fun _=>fEq);have ad3:AN w2 w3:=by rw[hw3];exact((Ch.refl _ _).alloc _).setRow (.inr (Nat.le_refl _)) _
 have pa:Gu w.heap.size w2.heap.size K ao2 cap2 l e1 sm ot w3:=by
  refine⟨?_,ad3.row k2 id,(ad3.owns H2.out.1 (fun _ _ h=>h)).base (fun _ _=>Nat.zero_le _)⟩;rw[hw3];exact AK (heap_alloc_new _ _) _
 have aw3:AN w w3:=b12.trans ad3 (fun _=>fEq);have H3:=(hIq pa aw3)
 have q0:=AH pa.1 (i:=0) rfl;have q2:=AH pa.1 (i:=2) rfl;have q3:=AH pa.1 (i:=3) rfl;clear hw3 k2 b12 ad3 pa aw3 K1 H2 A1 A0 HFD HR HA;cases sm with
 | true =>
  go_wp2;go_ret2;exact⟨rfl,H3.out.2⟩
 | false =>
  cases ot with
  | false =>
   have hcost:=Hh (l:=l) HOT.out.symm;have hw1:IntKind.i64.wrap (1+(l.length:Int))=((l.length+1:Nat):Int):=by rw[IntKind.wrap];simp[IntKind.signed,IntKind.bits];omega
   have HCO:=Lib.hid hcost;clear hcost;go_wp2;go_ret2;refine⟨?_,H3.out.2⟩
   first|rw[HCO.out]|skip
   rfl
  | true =>
   obtain⟨hcl,hc256,hkl2⟩:=ES HG.out hk HON.out HOT.out.symm;have hcost:=JJ HOT.out.symm hcl;have hcm:=fun w1=>CX key (nd σ e1).key hk hkl2 w1
   obtain⟨c,hc⟩:∃x,x=common key (nd σ e1).key:=⟨_,rfl⟩
   rw[←hc] at hcl hc256 hcm hcost;obtain⟨K2,hK2⟩:∃x,x=AS (nd σ e1).key:=⟨_,rfl⟩
   have hkc:∀w1,AN w w1→Calls Tryz.prog 129 #[.pointer (some ⟨s,0,none⟩),.int .i64 e1] w1 fun e w'=>e=.returned (.agg K2)∧AN w1 w':=fun w1 a=>by
    have:=I3 (HT.out.adds a) e1;rw[←hK2] at this;exact this
   rw[←hK2, ←HKK.out] at hcm;have HC:=Lib.hid hcm;have HKC:=Lib.hid hkc;have HCO:=Lib.hid hcost;have hw1:IntKind.i64.wrap (1+(l.length:Int))=(l.length:Int)+1:=by rw[IntKind.wrap];simp[IntKind.signed,IntKind.bits];omega
   have hw2:IntKind.i64.wrap ((c:Int)-(l.length:Int))=(c:Int)-(l.length:Int):=by rw[IntKind.wrap];simp[IntKind.signed,IntKind.bits];omega
   have hw3:IntKind.i64.wrap ((c:Int)-(l.length:Int)+1)=(c:Int)-(l.length:Int)+1:=by rw[IntKind.wrap];simp[IntKind.signed,IntKind.bits];omega
   have hw4:IntKind.i64.wrap ((l.length:Int)+1+((c:Int)-(l.length:Int)+1))=(c:Int)+2:=by rw[IntKind.wrap];simp[IntKind.signed,IntKind.bits];omega
   clear hcm hkc hkl2 hc hK2 hp hcost;go_wp2;refine AP (fun w0=>Gu w.heap.size w2.heap.size K ao2 cap2 l e1 false true w0) 13 [(0,false),(1,false),(2,false),(3,false),(4,false),(7,false),(8,false),(9,false),(5,true),(6,true),(10,false),(11,false),(12,false)] (by kernel_rfl) (by kernel_rfl) ?_ ?_
   · exact H3.out.1.adds (Ch.refl _ _).drew
   iterate 1 refine plan_look rfl rfl (fun w0 hS=>(by go_simp;try rfl)) ?_
   simp only[Act.put,nAq,nBq,nCq];refine Aa (cur:=K) (t:=47) (fr:=(0,0)) rfl rfl 47 (.tmp 6) rfl w.heap.size 0 32 rfl (fun w0 hS=>hS.2.1) Tryz.underlying47 rfl Ab (by rw[HK.out];omega) K (by simp[←HK.out]) ?_;simp only[Act.put,nAq,nBq,nCq]
   iterate 2
    iterate 1 refine plan_look rfl rfl (fun w0 hS=>(by go_simp;try rfl)) ?_
    simp only[Act.put,nAq,nBq,nCq]
   refine plan_look (v:=.int .i64 e1) rfl rfl (fun w0 hS=>(by have q1:=AH hS.1 (i:=1) rfl;clear hS q0 q2 q3;go_simp;try rfl)) ?_;simp only[Act.put,nAq,nBq,nCq]
   iterate 1 refine plan_look rfl rfl (fun w0 hS=>(by go_simp;try rfl)) ?_
   simp only[Act.put,nAq,nBq,nCq];refine plan_look (v:=.slice ao2 l.length cap2) rfl rfl (fun w0 hS=>(by have q1:=AH hS.1 (i:=0) rfl;clear hS q0 q2 q3;go_simp;try rfl)) ?_;simp only[Act.put,nAq,nBq,nCq];refine plan_look (v:=.int .i64 l.length) rfl rfl (fun w0 hS=>(by clear hS q0 q2 q3;go_simp;try rfl)) ?_;simp only[Act.put,nAq,nBq,nCq];refine AW rfl ?_;go_wp2_with fail;refine(HKC.out _ H3.out.2.drew).mono ?_;rintro e w5 ⟨rfl,a5⟩;have a5':AN w3 w5:=((Ch.refl _ _).drew).trans a5 (fun _=>fEq);have H5:=(hIq (H3.out.1.adds a5') (H3.out.2.trans a5' (fun _=>fEq)))
   clear a5 a5' q0 q2 q3;dsimp only;go_step;refine wpList_nil ?_;change _∧_;refine⟨H5.out.1,?_⟩;refine AW rfl ?_;go_wp2_with fail;refine(HC.out _).mono ?_;rintro e w6 ⟨rfl,a6⟩;have H6:=(hIq (H5.out.1.adds a6) (H5.out.2.trans a6 (fun _=>fEq)))
   clear a6 H5;dsimp only;go_step;refine wpList_nil ?_;change _∧_;refine⟨H6.out.1,?_⟩;refine plan_look (v:=.int .i64 ((c:Int)-(l.length:Int))) rfl rfl (fun w0 hS=>(by clear hS;go_simp;try simp[hw2])) ?_;simp only[Act.put,nAq,nBq,nCq];refine plan_look (v:=.int .i64 ((c:Int)-(l.length:Int)+1)) rfl rfl (fun w0 hS=>(by clear hS;go_simp;try simp[hw3])) ?_;simp only[Act.put,nAq,nBq,nCq];refine plan_look (v:=.int .i64 ((c:Int)+2)) rfl rfl (fun w0 hS=>(by clear hS;go_simp;try simp[hw4])) ?_;simp only[Act.put,nAq,nBq,nCq];refine AZ ?_;simp only[List.drop_succ_cons,List.drop_zero];go_wp2;refine NoPanic.normal ?_;go_wp2;go_ret2;refine⟨?_,H6.out.2⟩
   first|rw[HCO.out]|skip
   rfl
end
section
variable {w0 w : World} {s : Nat} {σ σ' : AG Nd} {F G : Nat→Prop} {root r : Int} {t : Tr} {L : Av} {key bs : List UInt8}
theorem FZ (h:Az σ root=0):AX σ root=0:=by
 unfold Az at h;by_cases e:AX σ root=0
 · exact e
 rw[if_pos e] at h;exact absurd h e
theorem QS (hs:Sound σ []) (h:Az σ root=0):root=0∨1≤held σ root:=by
 have hr:=FZ h;by_cases h0:root=0
 · exact .inl h0
 right;unfold Az at h;rw[if_neg (by simpa using hr)] at h;have hne:(nd σ root).held≠0:=fun e=>by rw[if_pos ⟨h0,e⟩] at h;exact absurd h (by decide)
 have:=D7 hs root;unfold held at *;omega
theorem P1:C9 σ 1=decide (σ.used+258≤σ.room):=by
 unfold C9;simp;omega
theorem QZ {e:Int} (h:Dh σ key bs e=true):∃x,sk σ e=some x∧x.kind=1∧x.key=key∧x.value=bs:=by
 unfold Dh at h;simp at h;obtain⟨h1,h2,h3⟩:=h;cases hx:sk σ e with
 | none=>rw[Jh hx] at h1;omega
 | some x =>
  rw[MP hx] at h1;rw[Ho hx] at h2;rw[Ka hx] at h3;exact⟨x,rfl,h1,h2,h3⟩
theorem On.zero {f:View} (hz:f 0=none) {k:List UInt8} {d:Nat} {l:List Int} {e:Int} (ho:On f k 0 d l e):l = []∧e=0:=by
 cases ho with
 | stop _=>exact⟨rfl,rfl⟩
 | step hn _ _ _=>rw[hz] at hn;cases hn
structure Db (σ:AG Nd) (root:Int) (L:Av):Prop where
 good:Good σ
 rep:Rep (sk σ) root 0 (tree 256 L)
 nodup:(DT L).Nodup
 len:∀p∈L,p.1.length=32
 held:root=0∨1≤held σ root
def XE (σ:AG Nd) (root:Int):Prop:=∀k,1≤held σ k→k=root∧held σ k=1
structure XY (σ σ':AG Nd) (root r:Int) (n:Nat):Prop where
 ne:r≠0
 mine:held σ' r=1∨(r=root∧held σ' r=held σ root)
 only:∀k,1≤held σ' k→k=r∨(1≤held σ k∧(k=root→2≤held σ k))
 others:∀k,k≠root→1≤held σ k→sk σ' k=sk σ k∧held σ' k=held σ k
 live:Store.live σ'≤Store.live σ+n
 total:Store.total σ'≤Store.total σ+600
 room:σ'.room=σ.room
 fresh:r=root∨sk σ r=none
 span:σ'.slots.length≤σ.slots.length+n
 keeps:∀k d t,k≠root→1≤held σ k→Rep (sk σ) k d t→Rep (sk σ') k d t
end
end Go.Proofs.YtngbdbpofifimaaGreat.Store

/- Laws of the layers below. -/
import Derived.Test.YtooijgcildbnlaaGreatQg40
set_option maxHeartbeats 3200000
set_option maxRecDepth 100000
set_option linter.unusedVariables false
namespace Go.Proofs.YtooijgcildbnlaaGreat.Store
open Go.RowKit Go.Proofs.YtooijgcildbnlaaGreat.ShaW Go.Proofs.YtooijgcildbnlaaGreat.Path Go.Proofs.YtooijgcildbnlaaGreat.Law7
section
variable {w0 w w' : World} {s b : Nat} {σ σ' : AD Nd} {G : Nat→Prop} {rm : Nat}
theorem Tw.own (h:Tw w0 w s b σ G) (hc:Ch (fun k=>G k∧w0.heap.size≤k) w w'):Tw w0 w' s b σ G:=by
 obtain⟨ρ,F1,F2,h1,h2,h3,h6,h7,h10,h11⟩:=h;exact⟨ρ,F1,F2,h1.Am hc (fun k hk hn=>(h11 k hn.1).1 hk),h2.Am hc (fun k hk hn=>(h11 k hn.1).2.1 hk),h3,h6,h7,h10.trans hc (fun k hk=>.inr hk.2),fun k hk=>⟨(h11 k hk).1,(h11 k hk).2.1,Nat.lt_of_lt_of_le (h11 k hk).2.2 hc.size⟩⟩
theorem Ul (h:Tw w0 w s b σ (fun _=>False)) (hs:Cr rm σ) {key val:List UInt8} {vv:Value} (d a b1:Int) (hx:Bk.Good w0 ⟨0,key,vv,val,d,a,b1⟩) (hl:val.length≤2000) :
 Calls Tryz.prog 90 #[.pointer (some ⟨s,0,none⟩),.pointer (some ⟨b,0,none⟩),.agg (Bk.cells ⟨0,key,vv,val,d,a,b1⟩)] w fun e w'=>e=.returned (.bool true)∧∃σ',Tw w0 w' s b σ' (fun _=>False)∧Cr rm σ':=by
 have hk:key.length=32:=hx.key;have q0:=Bk.Av (x:=⟨0,key,vv,val,d,a,b1⟩);have q1:=Bk.Bh (x:=⟨0,key,vv,val,d,a,b1⟩) hk;have q2:=Bk.I3 (x:=⟨0,key,vv,val,d,a,b1⟩) hk;have qs:=Bk.size (x:=⟨0,key,vv,val,d,a,b1⟩) hk;have hb:Bytes w0 vv val:=hx.val;simp only at q0 q1 q2;obtain⟨ao,cap,hvf,_,_⟩:=hb.form;obtain⟨X,hX⟩:∃X,X=Bk.cells ⟨0,key,vv,val,d,a,b1⟩:=⟨_,rfl⟩
 rw[←hX] at q0 q1 q2 qs ⊢;obtain⟨K,hK⟩:∃K,K=AJ key:=⟨_,rfl⟩
 rw[←hK] at q1;obtain⟨n,hn⟩:∃n,n=val.length:=⟨_,rfl⟩
 rw[hvf, ←hn] at q2
 have hbw:∀w1,Adds w0 w1→Bytes w1 (.slice ao n cap) val:=fun w1 a=>by
  have:=hb.Am a (fun _ _ h=>h);rw[hvf, ←hn] at this;exact this
 have a0:Adds w (w.alloc (.cells X 173)):=(Ch.refl _ _).alloc _;have hx0:=heap_alloc_new w (.cells X 173);have c0:=AG hx0 q0;have c2:=AG hx0 q2;have hLB:=Iw (hbw _ (h.world.trans a0 (fun _=>fEq))) (by omega);rw[←hn,World.size_alloc] at hLB;have hg0:w0.heap.size≤w.heap.size:=h.world.size;have HLB:=Lib.hid hLB;have HX:=(hIq qs (aIq q1 q2))
 have H0:=(hIq hx0 (aIq a0 hg0))
 have HS:=Lib.hid h;have HF:=Lib.hid hs;have HB:=Lib.hid hbw;have HKK:=(hIq hK hk)
 have HL4:=Lib.hid (by omega:val.length≤4000);have HN:=Lib.hid hn;clear hLB q0 q1 q2 qs hX hK hx0 a0 hg0 hb hbw hk h hs hx hl hn hvf;go_enter Tryz.func90,Tryz.ntmps90;go_wp2_with fail;refine HLB.out.mono ?_;rintro e w2 ⟨rfl,hg2,a2⟩;have T1:Tw w0 (w.alloc (.cells X 173)) s b σ (fun k=>k=w.heap.size):=HS.out.more H0.out.2.1 (fun k hk=>.inr ⟨by omega,by rw[World.size_alloc];omega⟩);have l2:=Ad hg2;have T2:Tw w0 w2 s b σ (fun k=>k=w.heap.size∨k=w.heap.size+1):=T1.more a2 (fun k hk=>hk.imp id (fun e=>by rw[World.size_alloc];omega));have x2:=a2.row H0.out.1 id;have hbr:=Ny hg2 HL4.out;rw[←HN.out] at hbr
 have hleaf:=T2.both (f:=174) (args:=#[.pointer (some ⟨s,0,none⟩),.agg K,.slice (some ⟨w.heap.size+1,0,none⟩) n (n+5)]) (P:=fun e σ'=>∃v,e=.returned (.tuple #[.int .i64 (BU σ key val v).1,.int .i64 (BU σ key val v).2.1])∧σ'=(BU σ key val v).2.2) (fun G' hO=>by
  have:=hO.leaf key HKK.out.2 hbr.bytes (fun _ k hk=>by cases hk;exact l2);rw[←HKK.out.1] at this;exact this.mono fun e w' ⟨v,he,ho,hB⟩=>⟨_,⟨v,he,rfl⟩,ho,hB⟩)
 have HLF:=Lib.hid hleaf;have H2:=(hIq x2 hg2)
 clear hleaf x2 hg2 hbr T1 T2 a2 l2
 go_wp2_with (first
  | fail
  | ((with_reducible show zOq (.load 24 _));refine AK rfl 24 _ rfl w.heap.size 1 rfl H2.out.1 Tryz.underlying24 rfl Au (by rw[HX.out.1];omega) K HX.out.2.1 ?_))
 refine HLF.out.mono ?_;rintro e w3 ⟨σ3,⟨v,rfl,rfl⟩,hB3,hdoc⟩;obtain⟨r1,hr1⟩:∃r1,r1=(BU σ key val v).1:=⟨_,rfl⟩
 obtain⟨r2,hr2⟩:∃r2,r2=(BU σ key val v).2.1:=⟨_,rfl⟩
 obtain⟨σ3,hσ3⟩:∃σ3,σ3=(BU σ key val v).2.2:=⟨_,rfl⟩
 have x3:=hB3.row H2.out.1 (.inl rfl);have g3:=hB3.row H2.out.2 (.inr rfl);have d2:=AG x3 HX.out.2.2
 have hd:=hdoc (g:=175) (args1:=#[.pointer (some ⟨b,0,none⟩),.agg K,.slice ao n cap]) (P1:=fun e=>e=.returned (.tuple #[.int .i64 r1,.int .i64 r2])) (Ch.refl _ _) (fun G' hR=>by
  have:=hR.leaf HF.out.good key HKK.out.2 (HB.out _ hR.world) v;rw[←HKK.out.1, ←hr1, ←hr2] at this;exact this)
 rw[←hσ3] at hd;rw[←hr1, ←hr2];have hf3:=HF.out.leaf key val v HKK.out.2;rw[←hσ3] at hf3;have HD:=Lib.hid hd;have H3:=(hIq x3 (aIq g3 hf3))
 clear hd hdoc x3 g3 hf3 hB3 hr1 hr2 hσ3 c0 c2
 go_wp2_with (first
  | fail
  | ((with_reducible show zOq (.load 24 _));refine AK rfl 24 _ rfl w.heap.size 1 rfl H3.out.1 Tryz.underlying24 rfl Au (by rw[HX.out.1];omega) K HX.out.2.1 ?_))
 refine HD.out.mono ?_;rintro e w4 ⟨rfl,T4,hB4⟩;have x4:=hB4.row H3.out.1 (.inl rfl);have g4:=hB4.row H3.out.2.1 (.inr rfl);have e2:=AG x4 HX.out.2.2;have hkb:=Mn g4 (HB.out w4 T4.world) HL4.out;rw[←HN.out] at hkb;have HKB:=Lib.hid hkb;have H4:=(hIq T4 g4)
 clear hkb x4 g4 T4 hB4 d2;go_wp2_with fail;refine HKB.out.mono ?_;rintro e w5 ⟨rfl,a5⟩;have hob:=MT (Ny (a5.row H4.out.2 id) HL4.out);rw[←HN.out] at hob;have HOB:=Lib.hid hob;have H5:=Lib.hid (H4.out.1.adds a5);clear hob a5 e2;go_wp2_with fail;refine HOB.out.mono ?_;rintro e w6 ⟨⟨u,rfl⟩,c6⟩
 have H6:=Lib.hid (H5.out.own (c6.mono (fun k _ hk=>by
  have hk':k=w.heap.size+1:=by cases hk;rfl
  exact⟨.inr hk',by have:=H0.out.2.2;omega⟩)))
 clear c6;go_wp2;go_ret;exact⟨rfl,_,H6.out.less (fun k hk=>hk.elim),H3.out.2.2⟩
end
section
variable {w0 w w' : World} {s b : Nat} {σ σ' : AD Nd} {G : Nat→Prop} {rm : Nat}
theorem Tw.inner (h:Tw w0 w s b σ G) (hs:Cr rm σ) (d l r:Int) :
 Calls Tryz.prog 176 #[.pointer (some ⟨s,0,none⟩),.int .i64 d,.int .i64 l,.int .i64 r] w fun e w'=>e=.returned (.tuple #[.int .i64 (Af σ d l r).1,.int .i64 (Af σ d l r).2.1])∧But G w w' ∧
  Calls Tryz.prog 177 #[.pointer (some ⟨b,0,none⟩),.int .i64 d,.int .i64 l,.int .i64 r] w' fun e w2=>e=.returned (.tuple #[.int .i64 (Af σ d l r).1,.int .i64 (Af σ d l r).2.1])∧Tw w0 w2 s b (Af σ d l r).2.2 G∧But G w' w2 :=
 (h.both (P:=fun e σ'=>e=.returned (.tuple #[.int .i64 (Af σ d l r).1,.int .i64 (Af σ d l r).2.1])∧σ'=(Af σ d l r).2.2) (fun G' hO=>(hO.inner d l r).mono fun e w' ⟨he,ho,hB⟩=>⟨_,⟨he,rfl⟩,ho,hB⟩)).mono fun e w' ⟨σ',⟨he,e'⟩,hB,hd⟩=>⟨he,hB,by
  subst e';exact hd (P1:=fun e=>e=.returned (.tuple #[.int .i64 (Af σ d l r).1,.int .i64 (Af σ d l r).2.1])) (Ch.refl _ _) (fun G' hR=>hR.inner hs.good d l r)⟩
theorem Tw.hold (h:Tw w0 w s b σ G) (hs:Cr rm σ) (n:Int) :
 Calls Tryz.prog 119 #[.pointer (some ⟨s,0,none⟩),.int .i64 n] w fun e w'=>e=.returned (.int .i64 (Bl σ n).1)∧But G w w' ∧
  ∀w1,Adds w' w1→Calls Tryz.prog 147 #[.pointer (some ⟨b,0,none⟩),.int .i64 n] w1 fun e w2=>e=.returned (.int .i64 (Bl σ n).1)∧Tw w0 w2 s b (Bl σ n).2 G∧But G w1 w2 :=
 (h.both (P:=fun e σ'=>e=.returned (.int .i64 (Bl σ n).1)∧σ'=(Bl σ n).2) (fun G' hO=>(hO.hold n).mono fun e w' ⟨he,ho,hB⟩=>⟨_,⟨he,rfl⟩,ho,hB⟩)).mono fun e w' ⟨σ',⟨he,e'⟩,hB,hd⟩=>⟨he,hB,fun w1 a1=>by
  subst e';exact hd (P1:=fun e=>e=.returned (.int .i64 (Bl σ n).1)) a1 (fun G' hR=>hR.hold hs.good n)⟩
theorem Tw.drop (h:Tw w0 w s b σ G) (hs:Cr rm σ) (n:Int) :
 Calls Tryz.prog 23 #[.pointer (some ⟨s,0,none⟩),.int .i64 n] w fun e w'=>e=.returned (.tuple #[.int .i64 (BJ σ n).1,.int .i64 (BJ σ n).2.1])∧But G w w' ∧
  Calls Tryz.prog 148 #[.pointer (some ⟨b,0,none⟩),.int .i64 n] w' fun e w2=>e=.returned (.tuple #[.int .i64 (BJ σ n).1,.int .i64 (BJ σ n).2.1])∧Tw w0 w2 s b (BJ σ n).2.2 G∧But G w' w2 :=
 (h.both (P:=fun e σ'=>e=.returned (.tuple #[.int .i64 (BJ σ n).1,.int .i64 (BJ σ n).2.1])∧σ'=(BJ σ n).2.2) (fun G' hO=>(hO.drop n).mono fun e w' ⟨he,ho,hB⟩=>⟨_,⟨he,rfl⟩,ho,hB⟩)).mono fun e w' ⟨σ',⟨he,e'⟩,hB,hd⟩=>⟨he,hB,by
  subst e';exact hd (P1:=fun e=>e=.returned (.tuple #[.int .i64 (BJ σ n).1,.int .i64 (BJ σ n).2.1])) (Ch.refl _ _) (fun G' hR=>hR.drop hs.good n)⟩
theorem RO (h:Tw w0 w s b σ (fun _=>False)) (hs:Cr rm σ) {key val:List UInt8} {vv:Value} {d a b1:Int} (hk:key.length=32) (hvo:vv.oneCell'=true) :
 Calls Tryz.prog 90 #[.pointer (some ⟨s,0,none⟩),.pointer (some ⟨b,0,none⟩),.agg (Bk.cells ⟨1,key,vv,val,d,a,b1⟩)] w fun e w'=>e=.returned (.bool true)∧∃σ',Tw w0 w' s b σ' (fun _=>False)∧Cr rm σ':=by
 have q0:=Bk.Av (x:=⟨1,key,vv,val,d,a,b1⟩);have q3:=Bk.LI (x:=⟨1,key,vv,val,d,a,b1⟩) hk;have q4:=Bk.UF (x:=⟨1,key,vv,val,d,a,b1⟩) hk;have q5:=Bk.T9 (x:=⟨1,key,vv,val,d,a,b1⟩) hk;simp only at q0 q3 q4 q5;obtain⟨X,hX⟩:∃X,X=Bk.cells ⟨1,key,vv,val,d,a,b1⟩:=⟨_,rfl⟩
 rw[←hX] at q0 q3 q4 q5 ⊢;have a0:Adds w (w.alloc (.cells X 173)):=(Ch.refl _ _).alloc _;have hx0:=heap_alloc_new w (.cells X 173);have c0:=AG hx0 q0;have T1:Tw w0 (w.alloc (.cells X 173)) s b σ (fun k=>k=w.heap.size):=h.more a0 (fun k hk=>.inr ⟨by omega,by rw[World.size_alloc];omega⟩);obtain⟨w1,hw1⟩:∃w1,w1=w.alloc (.cells X 173):=⟨_,rfl⟩
 have HQ:=(hIq q3 (aIq q4 q5))
 have HF:=Lib.hid hs;rw[←hw1] at hx0 T1 c0;have c3:=AG hx0 q3;have c4:=AG hx0 q4;have c5:=AG hx0 q5;have H1:=(hIq T1 hx0)
 have HW1:=Lib.hid hw1;clear q0 q3 q4 q5 hX a0 hx0 T1 h hs hk hvo hw1;go_enter Tryz.func90,Tryz.ntmps90;go_upto_region 1 with fail;have hin:=H1.out.1.inner HF.out d a b1;obtain⟨r1,hr1⟩:∃r1,r1=(Af σ d a b1).1:=⟨_,rfl⟩
 obtain⟨r2,hr2⟩:∃r2,r2=(Af σ d a b1).2.1:=⟨_,rfl⟩
 obtain⟨σ3,hσ3⟩:∃σ3,σ3=(Af σ d a b1).2.2:=⟨_,rfl⟩
 have hf:=HF.out.inner d a b1;rw[←hσ3] at hin hf;rw[←hr1, ←hr2] at hin;have HI:=Lib.hid hin;have HFF:=Lib.hid hf;clear hin hf hr1 hr2 hσ3;rw[←HW1.out];go_wp2_with fail;refine HI.out.mono ?_;rintro e w3 ⟨rfl,hB3,hdoc⟩;have x3:=hB3.row H1.out.2 rfl;have e3:=AG x3 HQ.out.1;have e4:=AG x3 HQ.out.2.1;have e5:=AG x3 HQ.out.2.2;have HD:=Lib.hid hdoc;clear x3 hB3 hdoc c0 c3 c4 c5;go_wp2_with fail;refine HD.out.mono ?_;rintro e w4 ⟨rfl,T4,hB4⟩;have H4:=Lib.hid T4;clear T4 hB4 e3 e4 e5;go_wp2;go_ret;exact⟨rfl,_,H4.out.less (fun k hk=>hk.elim),HFF.out⟩
theorem TV (h:Tw w0 w s b σ (fun _=>False)) (hs:Cr rm σ) {key val:List UInt8} {vv:Value} {d a b1:Int} (hk:key.length=32) (hvo:vv.oneCell'=true) :
 Calls Tryz.prog 90 #[.pointer (some ⟨s,0,none⟩),.pointer (some ⟨b,0,none⟩),.agg (Bk.cells ⟨3,key,vv,val,d,a,b1⟩)] w fun e w'=>e=.returned (.bool true)∧∃σ',Tw w0 w' s b σ' (fun _=>False)∧Cr rm σ':=by
 have q0:=Bk.Av (x:=⟨3,key,vv,val,d,a,b1⟩);have q3:=Bk.LI (x:=⟨3,key,vv,val,d,a,b1⟩) hk;have q4:=Bk.UF (x:=⟨3,key,vv,val,d,a,b1⟩) hk;have q5:=Bk.T9 (x:=⟨3,key,vv,val,d,a,b1⟩) hk;simp only at q0 q3 q4 q5;obtain⟨X,hX⟩:∃X,X=Bk.cells ⟨3,key,vv,val,d,a,b1⟩:=⟨_,rfl⟩
 rw[←hX] at q0 q3 q4 q5 ⊢;have a0:Adds w (w.alloc (.cells X 173)):=(Ch.refl _ _).alloc _;have hx0:=heap_alloc_new w (.cells X 173);have c0:=AG hx0 q0;have T1:Tw w0 (w.alloc (.cells X 173)) s b σ (fun k=>k=w.heap.size):=h.more a0 (fun k hk=>.inr ⟨by omega,by rw[World.size_alloc];omega⟩);obtain⟨w1,hw1⟩:∃w1,w1=w.alloc (.cells X 173):=⟨_,rfl⟩
 have HQ:=(hIq q3 (aIq q4 q5))
 have HF:=Lib.hid hs;rw[←hw1] at hx0 T1 c0;have c3:=AG hx0 q3;have c4:=AG hx0 q4;have c5:=AG hx0 q5;have H1:=(hIq T1 hx0)
 have HW1:=Lib.hid hw1;clear q0 q3 q4 q5 hX a0 hx0 T1 h hs hk hvo hw1;go_enter Tryz.func90,Tryz.ntmps90;go_upto_region 1 with fail;have hin:=H1.out.1.drop HF.out a;obtain⟨r1,hr1⟩:∃r1,r1=(BJ σ a).1:=⟨_,rfl⟩
 obtain⟨r2,hr2⟩:∃r2,r2=(BJ σ a).2.1:=⟨_,rfl⟩
 obtain⟨σ3,hσ3⟩:∃σ3,σ3=(BJ σ a).2.2:=⟨_,rfl⟩
 have hf:=HF.out.drop a;rw[←hσ3] at hin hf;rw[←hr1, ←hr2] at hin;have HI:=Lib.hid hin;have HFF:=Lib.hid hf;clear hin hf hr1 hr2 hσ3;rw[←HW1.out];go_wp2_with fail;refine HI.out.mono ?_;rintro e w3 ⟨rfl,hB3,hdoc⟩;have x3:=hB3.row H1.out.2 rfl;have e3:=AG x3 HQ.out.1;have e4:=AG x3 HQ.out.2.1;have e5:=AG x3 HQ.out.2.2;have HD:=Lib.hid hdoc;clear x3 hB3 hdoc c0 c3 c4 c5;go_wp2_with fail;refine HD.out.mono ?_;rintro e w4 ⟨rfl,T4,hB4⟩;have H4:=Lib.hid T4;clear T4 hB4 e3 e4 e5;go_wp2;go_ret;exact⟨rfl,_,H4.out.less (fun k hk=>hk.elim),HFF.out⟩
theorem Tn (h:Tw w0 w s b σ (fun _=>False)) (hs:Cr rm σ) {key val:List UInt8} {vv:Value} {d a b1:Int} {kind:Int} (k0:¬kind=0) (k1:¬kind=1) (k2:¬kind=2) (k3:¬kind=3) (k5:¬kind=5) (hk:key.length=32) (hvo:vv.oneCell'=true) :
 Calls Tryz.prog 90 #[.pointer (some ⟨s,0,none⟩),.pointer (some ⟨b,0,none⟩),.agg (Bk.cells ⟨kind,key,vv,val,d,a,b1⟩)] w fun e w'=>e=.returned (.bool true)∧∃σ',Tw w0 w' s b σ' (fun _=>False)∧Cr rm σ':=by
 have q0:=Bk.Av (x:=⟨kind,key,vv,val,d,a,b1⟩);have q3:=Bk.LI (x:=⟨kind,key,vv,val,d,a,b1⟩) hk;have q4:=Bk.UF (x:=⟨kind,key,vv,val,d,a,b1⟩) hk;have q5:=Bk.T9 (x:=⟨kind,key,vv,val,d,a,b1⟩) hk;simp only at q0 q3 q4 q5;obtain⟨X,hX⟩:∃X,X=Bk.cells ⟨kind,key,vv,val,d,a,b1⟩:=⟨_,rfl⟩
 rw[←hX] at q0 q3 q4 q5 ⊢;have a0:Adds w (w.alloc (.cells X 173)):=(Ch.refl _ _).alloc _;have hx0:=heap_alloc_new w (.cells X 173);have c0:=AG hx0 q0;have T1:Tw w0 (w.alloc (.cells X 173)) s b σ (fun k=>k=w.heap.size):=h.more a0 (fun k hk=>.inr ⟨by omega,by rw[World.size_alloc];omega⟩);obtain⟨w1,hw1⟩:∃w1,w1=w.alloc (.cells X 173):=⟨_,rfl⟩
 have HQ:=(hIq q3 (aIq q4 q5))
 have HF:=Lib.hid hs;rw[←hw1] at hx0 T1 c0;have c3:=AG hx0 q3;have c4:=AG hx0 q4;have c5:=AG hx0 q5;have H1:=(hIq T1 hx0)
 have HW1:=Lib.hid hw1;clear q0 q3 q4 q5 hX a0 hx0 T1 h hs hk hvo hw1;go_enter Tryz.func90,Tryz.ntmps90;go_upto_region 1 with fail;rw[←HW1.out];go_wp2_with fail;refine(H1.out.1.look HF.out.good a).mono ?_;rintro e w3 ⟨rfl,a3⟩;have H3:=Lib.hid (H1.out.1.adds a3);clear a3 c0 c3 c4 c5;go_wp2;go_ret;exact⟨rfl,_,H3.out.less (fun k hk=>hk.elim),HF.out⟩
end
section
variable {w0 w w' : World} {s b : Nat} {σ σ' : AD Nd} {G : Nat→Prop} {rm : Nat}
theorem UE (h:Tw w0 w s b σ (fun _=>False)) (hs:Cr rm σ) {key val:List UInt8} {vv:Value} {d a b1:Int} (hk:key.length=32) (hvo:vv.oneCell'=true) :
 Calls Tryz.prog 90 #[.pointer (some ⟨s,0,none⟩),.pointer (some ⟨b,0,none⟩),.agg (Bk.cells ⟨2,key,vv,val,d,a,b1⟩)] w fun e w'=>e=.returned (.bool true)∧∃σ',Tw w0 w' s b σ' (fun _=>False)∧Cr rm σ':=by
 have q0:=Bk.Av (x:=⟨2,key,vv,val,d,a,b1⟩);have q3:=Bk.LI (x:=⟨2,key,vv,val,d,a,b1⟩) hk;have q4:=Bk.UF (x:=⟨2,key,vv,val,d,a,b1⟩) hk;have q5:=Bk.T9 (x:=⟨2,key,vv,val,d,a,b1⟩) hk;simp only at q0 q3 q4 q5;obtain⟨X,hX⟩:∃X,X=Bk.cells ⟨2,key,vv,val,d,a,b1⟩:=⟨_,rfl⟩
 rw[←hX] at q0 q3 q4 q5 ⊢;have a0:Adds w (w.alloc (.cells X 173)):=(Ch.refl _ _).alloc _;have hx0:=heap_alloc_new w (.cells X 173);have c0:=AG hx0 q0;have T1:Tw w0 (w.alloc (.cells X 173)) s b σ (fun k=>k=w.heap.size):=h.more a0 (fun k hk=>.inr ⟨by omega,by rw[World.size_alloc];omega⟩);obtain⟨w1,hw1⟩:∃w1,w1=w.alloc (.cells X 173):=⟨_,rfl⟩
 have HQ:=(hIq q3 (aIq q4 q5))
 have HF:=Lib.hid hs;rw[←hw1] at hx0 T1 c0;have c3:=AG hx0 q3;have c4:=AG hx0 q4;have c5:=AG hx0 q5;have H1:=(hIq T1 hx0)
 have HW1:=Lib.hid hw1;clear q0 q3 q4 q5 hX a0 hx0 T1 h hs hk hvo hw1;go_enter Tryz.func90,Tryz.ntmps90;have hh:=(H1.out.1.adds (Ch.refl _ _).drew).hold HF.out a;obtain⟨r1,hr1⟩:∃r1,r1=(Bl σ a).1:=⟨_,rfl⟩
 obtain⟨σ3,hσ3⟩:∃σ3,σ3=(Bl σ a).2:=⟨_,rfl⟩
 have hf:=HF.out.hold a;rw[←hσ3] at hh hf;rw[←hr1] at hh;have HI:=Lib.hid hh;have HFF:=Lib.hid hf;clear hh hf hr1 hσ3;go_upto_region 1 with fail;rw[←HW1.out];go_upto_region 20 with fail;clear c0 c3 c4 c5;refine AS (fun wz=>wz.heap[w.heap.size]?=some (.cells X 173 (0,0))) 8 [(0,false),(1,false),(2,false),(4,false),(5,false),(6,false),(3,true),(7,true)] (by kernel_rfl) (by kernel_rfl) ?_ ?_
 · exact AQ H1.out.2
 iterate 2
  refine plan_look rfl rfl (fun w0 hS=>(by clear hS;go_simp;try rfl)) ?_;simp only[Act.put,nAq,nBq,nCq]
 refine plan_look (v:=.int .i64 a) rfl rfl (fun w0 hS=>(by have c:=AG hS HQ.out.2.1;clear hS;go_simp;try rfl)) ?_;simp only[Act.put,nAq,nBq,nCq]
 iterate 2
  refine plan_look rfl rfl (fun w0 hS=>(by clear hS;go_simp;try rfl)) ?_;simp only[Act.put,nAq,nBq,nCq]
 refine plan_look (v:=.int .i64 a) rfl rfl (fun w0 hS=>(by have c:=AG hS HQ.out.2.1;clear hS;go_simp;try rfl)) ?_;simp only[Act.put,nAq,nBq,nCq];refine Ah rfl ?_;go_wp2_with fail;refine HI.out.mono ?_;rintro e w3 ⟨rfl,hB3,hdoc⟩;have X3:=Lib.hid (hB3.row (AQ H1.out.2) rfl);have HD:=Lib.hid hdoc;clear hB3 hdoc;dsimp only;go_step;refine wpList_nil ?_;change _∧_;refine⟨X3.out,?_⟩;refine Ah rfl ?_;go_wp2_with fail;refine(HD.out _ (Ch.refl _ _)).mono ?_;rintro e w4 ⟨rfl,T4,hB4⟩;have H4:=(hIq T4 (hB4.row X3.out rfl))
 clear T4 hB4;dsimp only;go_step;refine wpList_nil ?_;change _∧_;refine⟨H4.out.2,?_⟩;refine Ae ?_;simp only[List.drop_succ_cons,List.drop_zero];go_wp2;refine NoPanic.normal ?_;go_wp2;go_ret;exact⟨rfl,_,H4.out.1.less (fun k hk=>hk.elim),HFF.out⟩
theorem Td (h:Tw w0 w s b σ (fun _=>False)) (hs:Cr rm σ) {key val:List UInt8} {vv:Value} {d a b1:Int} (hk:key.length=32) (hvo:vv.oneCell'=true) :
 Calls Tryz.prog 90 #[.pointer (some ⟨s,0,none⟩),.pointer (some ⟨b,0,none⟩),.agg (Bk.cells ⟨5,key,vv,val,d,a,b1⟩)] w fun e w'=>e=.returned (.bool true)∧∃σ',Tw w0 w' s b σ' (fun _=>False)∧Cr rm σ':=by
 have q0:=Bk.Av (x:=⟨5,key,vv,val,d,a,b1⟩);have q3:=Bk.LI (x:=⟨5,key,vv,val,d,a,b1⟩) hk;have q4:=Bk.UF (x:=⟨5,key,vv,val,d,a,b1⟩) hk;have q5:=Bk.T9 (x:=⟨5,key,vv,val,d,a,b1⟩) hk;simp only at q0 q3 q4 q5;obtain⟨X,hX⟩:∃X,X=Bk.cells ⟨5,key,vv,val,d,a,b1⟩:=⟨_,rfl⟩
 rw[←hX] at q0 q3 q4 q5 ⊢;have a0:Adds w (w.alloc (.cells X 173)):=(Ch.refl _ _).alloc _;have hx0:=heap_alloc_new w (.cells X 173);have c0:=AG hx0 q0;have T1:Tw w0 (w.alloc (.cells X 173)) s b σ (fun k=>k=w.heap.size):=h.more a0 (fun k hk=>.inr ⟨by omega,by rw[World.size_alloc];omega⟩);obtain⟨w1,hw1⟩:∃w1,w1=w.alloc (.cells X 173):=⟨_,rfl⟩
 have HQ:=(hIq q3 (aIq q4 q5))
 have HF:=Lib.hid hs;rw[←hw1] at hx0 T1 c0;have c3:=AG hx0 q3;have c4:=AG hx0 q4;have c5:=AG hx0 q5;have H1:=(hIq T1 hx0)
 have HW1:=Lib.hid hw1;clear q0 q3 q4 q5 hX a0 hx0 T1 h hs hk hvo hw1;go_enter Tryz.func90,Tryz.ntmps90;have hh:=(H1.out.1.adds (Ch.refl _ _).drew).hold HF.out a;obtain⟨r1,hr1⟩:∃r1,r1=(Bl σ a).1:=⟨_,rfl⟩
 obtain⟨σ3,hσ3⟩:∃σ3,σ3=(Bl σ a).2:=⟨_,rfl⟩
 have hf:=HF.out.hold a;rw[←hσ3] at hh hf;rw[←hr1] at hh;have HI:=Lib.hid hh;have HFF:=Lib.hid hf;clear hh hf hr1 hσ3;go_upto_region 1 with fail;rw[←HW1.out];go_upto_region 10 with fail;clear c0 c3 c4 c5;refine AS (fun wz=>wz.heap[w.heap.size]?=some (.cells X 173 (0,0))) 20 [(0,false),(1,false),(2,false),(4,false),(5,false),(6,false),(3,true),(7,true),(8,false),(9,false),(10,false),(11,false),(12,false),(14,false),(15,false),(16,false),(13,true),(17,true),(18,false),(19,false)] (by kernel_rfl) (by kernel_rfl) ?_ ?_
 · exact AQ H1.out.2
 iterate 2
  refine plan_look rfl rfl (fun w0 hS=>(by clear hS;go_simp;try rfl)) ?_;simp only[Act.put,nAq,nBq,nCq]
 refine plan_look (v:=.int .i64 a) rfl rfl (fun w0 hS=>(by have c:=AG hS HQ.out.2.1;clear hS;go_simp;try rfl)) ?_;simp only[Act.put,nAq,nBq,nCq]
 iterate 2
  refine plan_look rfl rfl (fun w0 hS=>(by clear hS;go_simp;try rfl)) ?_;simp only[Act.put,nAq,nBq,nCq]
 refine plan_look (v:=.int .i64 a) rfl rfl (fun w0 hS=>(by have c:=AG hS HQ.out.2.1;clear hS;go_simp;try rfl)) ?_;simp only[Act.put,nAq,nBq,nCq];refine Ah rfl ?_;go_wp2_with fail;refine HI.out.mono ?_;rintro e w3 ⟨rfl,hB3,hdoc⟩;have X3:=Lib.hid (hB3.row (AQ H1.out.2) rfl);have HD:=Lib.hid hdoc;clear hB3 hdoc;dsimp only;go_step;refine wpList_nil ?_;change _∧_;refine⟨X3.out,?_⟩;refine Ah rfl ?_;go_wp2_with fail;refine(HD.out _ (Ch.refl _ _)).mono ?_;rintro e w4 ⟨rfl,T4,hB4⟩;have H4:=(hIq T4 (hB4.row X3.out rfl))
 clear T4 hB4;dsimp only;go_step;refine wpList_nil ?_;change _∧_;refine⟨H4.out.2,?_⟩;have hh5:=H4.out.1.hold HFF.out b1;obtain⟨r5,hr5⟩:∃r5,r5=(Bl σ3 b1).1:=⟨_,rfl⟩
 obtain⟨σ5,hσ5⟩:∃σ5,σ5=(Bl σ3 b1).2:=⟨_,rfl⟩
 have hf5:=HFF.out.hold b1;rw[←hσ5] at hh5 hf5;rw[←hr5] at hh5;have HI5:=Lib.hid hh5;have HF5:=Lib.hid hf5;clear hh5 hf5 hr5 hσ5;refine plan_look (v:=.bool false) rfl rfl (fun w0 hS=>(by clear hS;go_simp;try rfl)) ?_;simp only[Act.put,nAq,nBq,nCq]
 iterate 3
  refine plan_look rfl rfl (fun w0 hS=>(by clear hS;go_simp;try rfl)) ?_;simp only[Act.put,nAq,nBq,nCq]
 refine plan_look (v:=.int .i64 b1) rfl rfl (fun w0 hS=>(by have c:=AG hS HQ.out.2.2;clear hS;go_simp;try rfl)) ?_;simp only[Act.put,nAq,nBq,nCq]
 iterate 2
  refine plan_look rfl rfl (fun w0 hS=>(by clear hS;go_simp;try rfl)) ?_;simp only[Act.put,nAq,nBq,nCq]
 refine plan_look (v:=.int .i64 b1) rfl rfl (fun w0 hS=>(by have c:=AG hS HQ.out.2.2;clear hS;go_simp;try rfl)) ?_;simp only[Act.put,nAq,nBq,nCq];refine Ah rfl ?_;go_wp2_with fail;refine HI5.out.mono ?_;rintro e w5 ⟨rfl,hB5,hdoc⟩;have X5:=Lib.hid (hB5.row H4.out.2 rfl);have HD5:=Lib.hid hdoc;clear hB5 hdoc;dsimp only;go_step;refine wpList_nil ?_;change _∧_;refine⟨X5.out,?_⟩;refine Ah rfl ?_;go_wp2_with fail;refine(HD5.out _ (Ch.refl _ _)).mono ?_;rintro e w6 ⟨rfl,T6,hB6⟩;have H6:=(hIq T6 (hB6.row X5.out rfl))
 clear T6 hB6;dsimp only;go_step;refine wpList_nil ?_;change _∧_;refine⟨H6.out.2,?_⟩;refine plan_look (v:=.bool false) rfl rfl (fun w0 hS=>(by clear hS;go_simp;try rfl)) ?_;simp only[Act.put,nAq,nBq,nCq];refine plan_look (v:=.bool false) rfl rfl (fun w0 hS=>(by clear hS;go_simp;try rfl)) ?_;simp only[Act.put,nAq,nBq,nCq];refine Ae ?_;simp only[List.drop_succ_cons,List.drop_zero];go_wp2;refine NoPanic.normal ?_;have e3:=AG H6.out.2 HQ.out.1;have e4:=AG H6.out.2 HQ.out.2.1;have e5:=AG H6.out.2 HQ.out.2.2;have hin:=H6.out.1.inner HF5.out d a b1;obtain⟨r7,hr7⟩:∃r7,r7=(Af σ5 d a b1).1:=⟨_,rfl⟩
 obtain⟨r8,hr8⟩:∃r8,r8=(Af σ5 d a b1).2.1:=⟨_,rfl⟩
 obtain⟨σ7,hσ7⟩:∃σ7,σ7=(Af σ5 d a b1).2.2:=⟨_,rfl⟩
 have hf:=HF5.out.inner d a b1;rw[←hσ7] at hin hf;rw[←hr7, ←hr8] at hin;have HI7:=Lib.hid hin;have HF7:=Lib.hid hf;clear hin hf hr7 hr8 hσ7;go_wp2_with fail;refine HI7.out.mono ?_;rintro e w7 ⟨rfl,hB3,hdoc⟩;have x3:=hB3.row H6.out.2 rfl;have f3:=AG x3 HQ.out.1;have f4:=AG x3 HQ.out.2.1;have f5:=AG x3 HQ.out.2.2;have HD7:=Lib.hid hdoc;clear x3 hB3 hdoc e3 e4 e5;go_wp2_with fail;refine HD7.out.mono ?_;rintro e w8 ⟨rfl,T8,hB4⟩;have H8:=Lib.hid T8;clear T8 hB4 f3 f4 f5;go_wp2;go_ret;exact⟨rfl,_,H8.out.less (fun k hk=>hk.elim),HF7.out⟩
theorem XT (h:Tw w0 w s b σ (fun _=>False)) (hs:Cr rm σ) (x:Bk) (hx:x.Good w0) (hl:x.val.length≤2000) :
 Calls Tryz.prog 90 #[.pointer (some ⟨s,0,none⟩),.pointer (some ⟨b,0,none⟩),.agg x.cells] w fun e w'=>e=.returned (.bool true)∧∃σ',Tw w0 w' s b σ' (fun _=>False)∧Cr rm σ':=by
 obtain⟨kind,key,vv,val,d,a,b1⟩:=x;have hk:=hx.key
 have hvo:vv.oneCell'=true:=by
  obtain⟨ao,cap,e,_⟩:=hx.val.form;rw[show vv=_ from e];rfl
 by_cases k0:kind=0
 · subst k0;exact Ul h hs d a b1 hx hl
 by_cases k1:kind=1
 · subst k1;exact RO h hs hk hvo
 by_cases k2:kind=2
 · subst k2;exact UE h hs hk hvo
 by_cases k3:kind=3
 · subst k3;exact TV h hs hk hvo
 by_cases k5:kind=5
 · subst k5;exact Td h hs hk hvo
 exact Tn h hs k0 k1 k2 k3 k5 hk hvo
end
theorem Ur (n:Int) (w:World) (h:n<1∨65536<n):Calls Tryz.prog 89 #[.int .i64 n] w fun e w'=>e=.returned (.tuple #[.pointer none,.int .i64 2])∧w=w':=by
 by_cases h1:n<1
 · clear h
   go_enter Tryz.func89,Tryz.ntmps89;go_wp2;go_ret2;exact⟨rfl,rfl⟩
 have h2:(65536:Int)<n:=h.resolve_left h1;clear h;go_enter Tryz.func89,Tryz.ntmps89;go_wp2;go_ret2;exact⟨rfl,rfl⟩
theorem To:(Tryz.prog.info? 173).map (·.size)=some 37:=by kernel_rfl
def Jw (w w':World) (e:Ending):Prop :=
 Adds w w'∧(e=.returned (.tuple #[.pointer none,.pointer none,.bool false])∨∃s b σ rm,e=.returned (.tuple #[.pointer (some ⟨s,0,none⟩),.pointer (some ⟨b,0,none⟩),.bool true])∧Tw w w' s b σ (fun _=>False)∧Cr rm σ∧1≤rm∧rm≤60)
theorem Q9 (n:Int) (ao:Option Addr) (len cap:Nat) (hl:200<len) (w:World) :
 Calls Tryz.prog 25 #[.int .i64 n,.slice ao len cap] w fun e w'=>Jw w w' e:=by
 have hl':(200:Int)<(len:Int):=by omega
 have A:=Lib.hid (Ch.refl (fun _=>False) w);go_enter Tryz.func25,Tryz.ntmps25;go_wp2;go_ret3;exact⟨A.out,.inl rfl⟩
theorem SD (n:Int) (hn:60<n) (ao:Option Addr) (len cap:Nat) (hl:len≤200) (w:World) :
 Calls Tryz.prog 25 #[.int .i64 n,.slice ao len cap] w fun e w'=>Jw w w' e:=by
 have hl':¬(200:Int)<(len:Int):=by omega
 have A:=Lib.hid (Ch.refl (fun _=>False) w);go_enter Tryz.func25,Tryz.ntmps25;go_wp2;go_ret3;exact⟨A.out,.inl rfl⟩
theorem UM (n:Int) (hn:n<1) (ao:Option Addr) (len cap:Nat) (hl:len≤200) (w:World) :
 Calls Tryz.prog 25 #[.int .i64 n,.slice ao len cap] w fun e w'=>Jw w w' e:=by
 have hl':¬(200:Int)<(len:Int):=by omega
 have h2:¬(60:Int)<n:=by omega
 have A:=Lib.hid (Ch.refl (fun _=>False) w);have HI:=Lib.hid (fun w1=>Ma n w1 (.inl hn));have HR:=Lib.hid (fun w1=>Ur n w1 (.inl hn));clear hn;go_enter Tryz.func25,Tryz.ntmps25;go_wp2_with fail;refine(HI.out _).mono ?_;rintro e w1 ⟨rfl,rfl⟩;go_wp2_with fail;refine(HR.out _).mono ?_;rintro e w1 ⟨rfl,rfl⟩;go_wp2;go_ret3;exact⟨A.out,.inl rfl⟩
theorem SP (n:Nat) (hn1:1≤n) (hn2:n≤60) (ao:Option Addr) (len cap:Nat) (hl:len≤200) (w:World) (ha:Hk w ao len) :
 Calls Tryz.prog 25 #[.int .i64 n,.slice ao len cap] w fun e w'=>Jw w w' e:=by
 have hl':¬(200:Int)<(len:Int):=by omega
 have hn2':¬60<(n:Int):=by omega
 have HA:=Lib.hid ha;have HN:=(hIq hn1 hn2)
 have HI:=Lib.hid (Kr n w hn1 (by omega));have HR:=Lib.hid (fun w1=>V0 (n:Int) w1 (by omega) (by omega));clear ha hn1 hn2;go_enter Tryz.func25,Tryz.ntmps25;go_wp2_with fail;refine HI.out.mono ?_;rintro e w1 ⟨s,F,rfl,hA1,hF1,a1⟩;have H1:=(hIq hA1 (aIq hF1 a1))
 clear hA1 hF1 a1;go_wp2_with fail;refine(HR.out _).mono ?_;rintro e w2 ⟨b,F2,rfl,hR2,hF2,a2⟩
 have T2:Tw w w2 s b ⟨n,[],[]⟩ (fun _=>False):=by
  rw[Int.toNat_natCast] at hR2;refine⟨_,F,F2,H1.out.1.adds a2,hR2,Lk.new n,H1.out.2.1,fun k hk=>?_,H1.out.2.2.trans a2 (fun _=>fEq),fun k hk=>hk.elim⟩;have h1:=hF2 k hk;have h2:=H1.out.2.2.size;exact⟨by omega,fun hf=>by have:=At.lt H1.out.1 k hf;omega⟩
 have HT:=(hIq T2 (show Cr n ⟨n,[],[]⟩ from⟨Good.new n HN.out.1 (by have:=HN.out.2;omega),rfl⟩))
 clear T2 hR2 hF2 a2;go_wp2_with fail;go_loopg [11] len (fun g s11 wr=>∃(k:Nat) (σ:AD Nd),k≤len∧g=len-k∧s11=.int .i64 k∧Tw w wr s b σ (fun _=>False)∧Cr n σ)
 case atStart=>exact⟨0,_,Nat.zero_le _,rfl,rfl,HT.out.1,HT.out.2⟩
 obtain⟨k,σ,hk,rfl,rfl,hT,hso⟩:=hrel;have HS:=(hIq hT hso)
 clear hT hso;by_cases hkl:k<len
 · obtain⟨g,off,x,rfl,hx,hp⟩:=HA.out k hkl
   obtain⟨cur,t,fr,hr,hfit,hext⟩:=hp.Am HS.out.1.world id;have hxs:=Bk.size hx.key;rw[hxs] at hfit hext;obtain⟨vo,vc,hvf,_,_⟩:=hx.val.form;obtain⟨vn,hvn⟩:∃vn,vn=x.val.length:=⟨_,rfl⟩
   rw[←hvn] at hvf;have h33:cur[off+k*37+33]?=some (.slice vo vn vc):=by rw[←hvf];exact Go.Proofs.YtooijgcildbnlaaGreat.CI.JT (by rw[hxs];exact hext) (Bk.I3 hx.key)
   obtain⟨C,hC⟩:∃C,C=x.cells:=⟨_,rfl⟩
   have hact:=fun hv=>XT HS.out.1 HS.out.2 x hx hv
   rw[←hvn] at hact;rw[←hC] at hext hact;have c33:=AG hr h33;have HD:=Lib.hid hact;have HRR:=(hIq hr (aIq hfit hext))
   have hki:(k:Int)<(len:Int):=by omega
   clear hr hfit hext hact hC hx hp hxs h33 hvf hvn;by_cases hv:2000<vn
   · have hv':(2000:Int)<(vn:Int):=by omega
     clear HD;go_wp2;go_ret3;exact⟨HS.out.1.world,.inl rfl⟩
   have hv':¬(2000:Int)<(vn:Int):=by omega
   have HV:=Lib.hid (by omega:vn≤2000);clear hv
   go_wp2_with (first
    | fail
    | ((with_reducible show zOq (.load 173 _));refine CO (by first|rfl|(simp[Region.wanted];done)) 173 _ rfl g (off+k*37) rfl HRR.out.1 Tryz.underlying173 rfl To HRR.out.2.1 C HRR.out.2.2 ?_))
   refine(HD.out HV.out).mono ?_;rintro e w3 ⟨rfl,σ',T3,f3⟩;have H3:=(hIq T3 f3)
   clear T3 f3;go_wp2;go_roundg (len-(k+1))
   case measure=>omega
   exact⟨k+1,σ',by omega,rfl,by go_num,H3.out.1,H3.out.2⟩
 obtain rfl:k=len:=by omega
 have hd:decide ((k:Int)<(k:Int))=false:=by simp
 clear hkl hk;go_wp2;go_ret3;exact⟨HS.out.1.world,.inr ⟨s,b,σ,n,rfl,HS.out.1,HS.out.2,HN.out.1,HN.out.2⟩⟩
theorem Vc (n:Int) (ao:Option Addr) (len cap:Nat) (w:World) (ha:Hk w ao len) :
 Calls Tryz.prog 25 #[.int .i64 n,.slice ao len cap] w fun e w'=>Jw w w' e:=by
 by_cases hl:200<len
 · exact Q9 n ao len cap hl w
 by_cases h60:60<n
 · exact SD n h60 ao len cap (by omega) w
 by_cases hb:n<1
 · exact UM n hb ao len cap (by omega) w
 obtain⟨m,rfl⟩:∃m:Nat,n=m:=⟨n.toNat,by omega⟩
 exact SP m (by omega) (by omega) ao len cap (by omega) w ha
end Go.Proofs.YtooijgcildbnlaaGreat.Store

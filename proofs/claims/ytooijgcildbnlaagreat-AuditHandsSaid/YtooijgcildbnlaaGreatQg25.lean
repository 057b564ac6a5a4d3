/- Laws of the layers below. -/
import Derived.Test.YtooijgcildbnlaaGreatQg24
set_option maxHeartbeats 3200000
set_option maxRecDepth 100000
set_option linter.unusedVariables false
namespace Go.Proofs.YtooijgcildbnlaaGreat.Store
open Go.RowKit Go.Proofs.YtooijgcildbnlaaGreat.ShaW Go.Proofs.YtooijgcildbnlaaGreat.Path
section
variable {w w' : World} {b : Nat} {F : Nat→Prop} {ρ : Rs} {σ : AD Nd}
theorem DF.cells {wz:World} {X:Array Value} (h:DF w wz b F ρ X) {i:Nat} {v:Value} (hv:X[i]?=some v):wz.cell? ⟨w.heap.size,i,none⟩=some v:=by
 obtain⟨F',_,_,_,e,_⟩:=h;exact AG e hv
theorem UW {T:Nat} (ih:Pv T b) {m:Nat} {s:Nd×Nat} {x:Sp} {rest:List Int} (hT:total σ≤T+1) (hs:Sound σ (((m:Int)+1)::rest)) (L:LkD σ ρ m s x) (h:RAt w b F ρ) (h1:s.2=1) :
 Calls Tryz.prog 224 #[.pointer (some ⟨b,0,none⟩),.int .i64 ((m:Int)+1)] w fun e w'=>e=.returned (.int .i64 ((sweep σ [(m:Int)+1] 0).1:Nat))∧∃ρ',Lk (sweep σ [(m:Int)+1] 0).2 ρ'∧RMoved w w' b F ρ':=by
 have hx:=L.hx;obtain⟨hd,L1⟩:=L.go h1;have hfr:=L.room hs;have hdt:=Cu L.get;have hS1:=hs.dropped;rw[if_pos hd,Ay L.get,MB] at hS1;rw[OK L.get hd];simp only;obtain⟨fk,fl,fri,fv,fkey,fd,fo,fos⟩:=L.fits;rw[←fl, ←fri] at hS1 ⊢;rw[←L.free, ←L.len] at hfr;obtain⟨σ1,hσ1⟩:∃σ1,σ1=(σ.drop Nd.zero ((m:Int)+1)).2.2:=⟨_,rfl⟩
 rw[←hσ1] at hS1 L1 hdt ⊢;have hT1:total σ1≤T:=by omega
 have hlv:live σ1≤65536:=by
  have e1:=Lf hS1.wf;have e2:=hS1.wf.len;have e3:=hS1.wf.room;unfold AD.used at e1;omega
 obtain⟨hS2,hc2,ht2,_⟩:=Kn σ1 (kids x.left) 0 _ hS1;have hT2:total (sweep σ1 (kids x.left) 0).2≤T:=by omega
 obtain⟨hS3,hc3,ht3,_⟩:=Kn _ (kids x.right) 0 _ hS2
 have hl0:x.left≠0→0<x.left:=fun e=>by
  obtain⟨y,hy⟩:=hS1.pile x.left (by rw[Fp e];exact List.mem_cons_self ..);obtain⟨k,hk,_⟩:=AD.Ag hy;omega
 have hr0:x.right≠0→0<x.right:=fun e=>by
  obtain⟨y,hy⟩:=hS2.pile x.right (by rw[Fp e];exact List.mem_cons_self ..);obtain⟨k,hk,_⟩:=AD.Ag hy;omega
 obtain⟨g,cap,cur,vf,hb,hg,q1,q2,q3,q4,q5,hok,hat,hex,fg,gb,hfit⟩:=ES h hx;obtain⟨_,hn1,hn2⟩:=h.1.nums x (List.mem_of_getElem? hx);have hl:=h.1.len;have hsp:=h.1.space;have hfo:=h.QY hb;obtain⟨af,cf,rfl⟩:=Ar hfo;have c2:=AG hb (i:=2) rfl;have lb:=Ad hb;obtain⟨i0,hi,hz0,hz1,hz2⟩:=SlabN.FU;have HI:=(hIq hi (aIq hz0 (aIq hz1 hz2)))
 obtain⟨X,hX⟩:∃X,X=x.cells:=⟨_,rfl⟩
 rw[←hX] at hex;obtain⟨Z,hZ⟩:∃Z,Z=Sp.zero.cells:=⟨_,rfl⟩
 have hzs:=Ey;have hzb:=Qq;rw[←hZ] at hzs hzb;have HX:=(hIq (by rw[hX];exact Sp.AT hok:X.size=39) (by rw[hX];exact Sp.cells_one hok:∀v∈X.toList,v.oneCell'=true))
 obtain⟨ow,how⟩:∃o,o=x.own:=⟨_,rfl⟩
 obtain⟨sd,hsd⟩:∃o,o=x.sides:=⟨_,rfl⟩
 have x37:X[37]?=some (.int .i64 ow):=by rw[hX,how];exact Sp.EZ hok
 have x38:X[38]?=some (.int .i64 sd):=by rw[hX,hsd];exact Sp.Gg hok
 have x35:X[35]?=some (.int .i64 x.left):=by rw[hX];exact Sp.E6 hok
 have x36:X[36]?=some (.int .i64 x.right):=by rw[hX];exact Sp.EJ hok
 have hos:ow=0∧sd=0:=by omega
 have HZ:=(hIq hzs (aIq (by rw[hZ];exact Sp.AT Sp.BA:Z.size=39) (aIq (by rw[hZ];exact Sp.cells_one Sp.BA:∀v∈Z.toList,v.oneCell'=true) hzb)))
 have HH:=(hIq hg (aIq hex hfit))
 have hw1:IntKind.i64.wrap (ow+sd)=ow+sd:=IntWalk.i64_in _ (by omega);have hp':decide (0<ow+sd)=false:=decide_eq_false (by omega);have aw1:Adds w ((w.alloc (.cells Z 254)).setRow w.heap.size X):=((Ch.refl _ w).alloc _).setRow (.inr (Nat.le_refl _)) _;have hrow1:=AF (heap_alloc_new w (.cells Z 254)) X;obtain⟨w1,hw1'⟩:∃w1,w1=(w.alloc (.cells Z 254)).setRow w.heap.size X:=⟨_,rfl⟩
 have hs1:w1.heap.size=w.heap.size+1:=by rw[hw1'];simp
 have c37:=AG hrow1 x37;have c38:=AG hrow1 x38;have hF:=h.lt;obtain⟨hfz,hwp,hcw,hb2⟩:=(h.adds aw1).YX hx (aw1.row hb id) (aw1.row hg id);rw[←hZ] at hwp hcw hb2;obtain⟨new,HN⟩:∃new,(splice cur.toList (m*39) Z.toList).toArray=new:=⟨_,rfl⟩
 rw[HN, ←hw1'] at hwp hcw hb2;rw[←hw1'] at aw1 hrow1;have HW1:=(hIq aw1 (aIq hrow1 (aIq (aw1.row hb id) (aw1.row hg id))))
 have HW2:=(hIq hwp (aIq hcw hb2))
 have HNN:=Lib.hid HN;have HL:=(hIq L1 (aIq hS1 (aIq hS2 (aIq hT1 hT2))))
 have HF:=Lib.hid hF;have HIH:=Lib.hid ih;have HX5:=(hIq x35 x36)
 have hgw:g≠w.heap.size:=by have:=hF g fg;omega
 have hbw:b≠w.heap.size:=by omega
 obtain⟨sl,hsl⟩:∃sl,sl=ρ.spots.length:=⟨_,rfl⟩
 have HSL:=Lib.hid hsl;rw[←hsl] at c2 q5 hl hfr;have hml:m≤65535:=by omega
 have hnf6:ρ.free.length≤65536:=by omega
 have HQ5:=(hIq q5 hfr)
 obtain⟨lf,hlf⟩:∃a,a=x.left:=⟨_,rfl⟩
 obtain⟨rg,hrg⟩:∃a,a=x.right:=⟨_,rfl⟩
 rw[←hlf] at hl0 HL HX5 hc2 hc3 ⊢;rw[←hrg] at hr0 HL HX5 hc3 ⊢;obtain⟨f1,hf1⟩:∃a,a=(sweep σ1 (kids lf) 0).1:=⟨_,rfl⟩
 obtain⟨σ2,hσ2⟩:∃a,a=(sweep σ1 (kids lf) 0).2:=⟨_,rfl⟩
 rw[←hσ2] at hc2 hc3 HL ⊢;rw[←hf1] at hc2 ⊢;obtain⟨f2,hf2⟩:∃a,a=(sweep σ2 (kids rg) 0).1:=⟨_,rfl⟩
 obtain⟨σ3,hσ3⟩:∃a,a=(sweep σ2 (kids rg) 0).2:=⟨_,rfl⟩
 rw[←hσ3] at hc3 ⊢;rw[←hf2] at hc3 ⊢;have hf1b:f1≤65536:=by omega
 have hf2b:f2≤65536:=by omega
 have HE:=(hIq hf1 (aIq hσ2 (aIq hf2 hσ3)))
 clear hf1 hσ2 hf2 hσ3 hlf hrg hsl hfr hb hg q1 q2 q3 q4 hok hat hex fg gb hfit h hX hZ hzs hzb x37 x38 x35 x36 how hsd hx L1 hS1 hS2 hS3 hT1 hT2 hT hs L hd hdt hσ1 hc2 hc3 ht2 ht3 hlv fk fl fri fv fkey fd fo fos h1 aw1 hrow1 hwp hcw hb2 HN hF hfo hi hz0 hz1 hz2 ih hn1 hn2 hos;go_enter Tryz.func224,Tryz.ntmps224
 go_upto_region 4 with(first
  | fail
  | ((with_reducible show zOq (.alloc 254));refine AH rfl 254 rfl (.agg Z) HZ.out.1 ?_;dsimp only[Value.cells];try simp only[World.size_alloc])
  | ((with_reducible show zOq (.load 254 _));refine AK rfl 254 _ rfl g (m*39) rfl HH.out.1 Tryz.underlying254 rfl CJ HH.out.2.2 X HH.out.2.1 ?_)
  | ((with_reducible show zOq (.store 254 _ _));refine AE rfl 254 _ _ rfl w.heap.size 0 X rfl rfl (heap_alloc_new _ _) (by rw[CJ,HX.out.1]) (by rw[HX.out.1,HZ.out.2.1];omega) HX.out.2 X (by rw[AI _ _ (by rw[Array.length_toList,Array.length_toList,HX.out.1,HZ.out.2.1])]) ?_))
 rw[←hw1'];have HFZ:=Lib.hid hfz;clear c2 lb c37 c38 hw1' hfz hw1 hp';have c2:=AG HW1.out.2.2.1 (i:=2) rfl;rw[←HSL.out] at c2;have l1:=Ad HW1.out.2.2.1
 go_upto_region 5 with(first
  | fail
  | ((with_reducible show zOq (.build 254 #[]));refine BP rfl 254 rfl Z HZ.out.2.2.2 ?_)
  | ((with_reducible show zOq (.store 254 _ _));refine AE rfl 254 _ _ rfl g (m*39) Z rfl rfl HW1.out.2.2.2 (by rw[CJ,HZ.out.2.1]) (by rw[HZ.out.2.1];exact HFZ.out) HZ.out.2.2.1 new HNN.out ?_))
 refine Ek (fun w2 hw2=>?_);have r2:RAt w2 b F (ρ.setAt m Sp.zero):=by rw[hw2];exact HW2.out.1
 have b2:w2.heap[b]?=some (.cells #[.bool true,.int .i64 (ρ.space:Nat),.slice (some ⟨g,0,none⟩) ρ.spots.length cap,.slice af ρ.free.length cf] 272 (0,0)):=by rw[hw2];exact HW2.out.2.2
 have ch2:Ch F w1 w2:=by rw[hw2];exact HW2.out.2.1
 have eB2:w2.heap[w.heap.size]?=some (.cells X 254 (0,0)):=by rw[hw2];exact row_setRow HW1.out.2.1 (Ne.symm hgw) new
 have cF:Ch F w w2:=(HW1.out.1.mono (G:=F) (fun _ _ h=>h.elim)).trans ch2 (fun k hk=>.inl hk);have ow2:w2.ownsRow 0 3 1 (.slice af ρ.free.length cf) ρ.free.length (ints ρ.free):=r2.QY b2;have HR2:=(hIq r2 (aIq b2 (aIq cF (aIq eB2 ow2))))
 clear c2 l1 hw2 r2 ch2 eB2 cF ow2;have c3:=AG b2 (i:=3) rfl;have l2:=Ad b2;have fr3:=Ao b2 3;clear b2
 go_upto_region 7 with(first
  | fail
  | (at_builtin;refine Ba rfl _ _ 39 rfl 3 i0 (.int .i64 0) 1 8 Tryz.underlying39 HI.out.1 HI.out.2.1 HI.out.2.2.1 HI.out.2.2.2 rfl (by decide) (.slice af ρ.free.length cf) ρ.free.length (ints ρ.free) rfl (HR2.out.2.2.2.2.alloc _) ⟨w2.heap.size,0,none⟩ 1 1 [.int .i64 ((m:Int)+1)] rfl rfl (cell_one_new _ _ _) (by simp[Value.oneCell']) (by unfold maxLen;omega) (by omega) ?_;intro v' w4 own' grow' ob';obtain⟨ro,rc,rfl⟩:=Ar own';have PF:=Lib.hid (RAt.Ti HR2.out.1 (m:=m) (by show m<(ρ.spots.set m Sp.zero).length;rw[List.length_set, ←HSL.out];exact HQ5.out.1) (by show ρ.free.length<(ρ.spots.set m Sp.zero).length;rw[List.length_set, ←HSL.out];exact HQ5.out.2) HR2.out.2.1 ((Ch.refl (fun _=>False) w2).alloc _) own' grow' ob');have r4b:=(((Ch.refl (fun j=>(Value.slice af ρ.free.length cf).ownBlock=some j) w2).alloc _).grown grow' (fun j hj=>.inl hj)).row HR2.out.2.1 (RAt.XR HR2.out.1 HR2.out.2.1);clear own' grow' ob';have c4:=AG r4b (i:=3) rfl;have f4:=Ao r4b 3;have l4:=Ad r4b;clear r4b))
 refine Ek (fun w5 hw5=>?_)
 have FA:DF w w5 b F (ρ.freed m) X:=by
  rw[hw5];exact DF.step HR2.out.2.2.1 (fun k hk=>.inl hk) HR2.out.2.2.2.1 HF.out PF.out
 have H5:=Lib.hid FA;clear c3 l2 fr3 c4 f4 l4 hw5 FA PF;have hwf1:IntKind.i64.wrap (1+(f1:Int))=1+(f1:Int):=IntWalk.i64_in _ (by omega);have hwf2:IntKind.i64.wrap (1+(f1:Int)+(f2:Int))=1+(f1:Int)+(f2:Int):=IntWalk.i64_in _ (by omega);have cl:=H5.out.cells HX5.out.1;go_upto_if 41 with fail;go_cut [6] (fun s6 wx=>∃ρ2,s6=.int .i64 (1+(f1:Int))∧Lk σ2 ρ2∧DF w wx b F ρ2 X)
 case first =>
  by_cases h0:lf=0
  · have k1:f1=0∧σ2=σ1:=by
     have e1:=HE.out.1;have e2:=HE.out.2.1;rw[h0,LJ,CK] at e1 e2;exact⟨e1,e2⟩
    have hl2:¬0<lf:=by omega
    have K1:=Lib.hid k1;clear k1;clear h0 hl0;go_wp2_with fail;go_meet;exact⟨_,by rw[K1.out.1];rfl,by rw[K1.out.2];exact HL.out.1,H5.out⟩
  have hl1:=hl0 h0;have hl2:True:=trivial
  have hS:Sound σ1 (lf::(kids rg++rest)):=by
   have:=HL.out.2.1;rw[Fp h0] at this;exact this
  obtain⟨m2,g2,cap2,vf2,x2,cur2,hlm,k1,k2,k3,k4,k5,eb,eg,ec,gb2,gB2,KID⟩:=(H5.out.drew).kid HIH.out HL.out.1 HL.out.2.2.2.1 hS;rw[←Fp h0, ←HE.out.1, ←HE.out.2.1] at KID
  have eB:w5.drew.heap[w.heap.size]?=some (.cells X 254 (0,0)):=by
   obtain⟨_,_,_,_,e,_⟩:=H5.out;exact AQ e
  obtain⟨sd2,hsd2⟩:∃a,a=x2.sides:=⟨_,rfl⟩
  rw[←hsd2] at k4 k5 ec KID;have hws:IntKind.i64.wrap (sd2-1)=sd2-1:=IntWalk.i64_in _ (by omega);obtain⟨sl2,hsl2⟩:∃a,a=(ρ.freed m).spots.length:=⟨_,rfl⟩
  rw[←hsl2] at k2 k3 eb;have clx:=AG (Ak eB (Ne.symm gB2) (.int .i64 (sd2-1)) (p:=⟨g2,m2*39+38,none⟩)) HX5.out.1;rw[show w5.drew.setCell ⟨g2,m2*39+38,none⟩ (.int .i64 (sd2-1))=(w5.setCell ⟨g2,m2*39+38,none⟩ (.int .i64 (sd2-1))).drew from rfl] at KID clx;have KK :=Lib.hid KID;have hwm:IntKind.i64.wrap (m2:Int)=(m2:Int):=IntWalk.i64_in _ (by omega);have hms:(m2:Int)<(sl2:Int):=by omega
  have c2:=AG eb (i:=2) rfl;have cs:=AG eg ec;have fs:=Ao eg (m2*39+38);have lg:=Ad eg;have cl2:=AG eB HX5.out.1;clear KID eb eg ec eB hsd2 hsl2 hS h0 hl0 gb2 gB2;subst hlm;go_wp2_with fail;refine AS (fun w0=>w0=w5.drew) 13 [(0,false),(1,false),(2,false),(3,false),(4,false),(5,false),(6,false),(7,false),(8,false),(9,false),(10,false),(11,false),(12,false)] (by kernel_rfl) (by kernel_rfl) rfl ?_
  iterate 13
   refine plan_look rfl rfl (fun w0 hS=>(by subst hS;go_simp;try rfl)) ?_;simp only[Act.put,nAq,nBq,nCq]
  refine Ae ?_;simp only[List.drop_succ_cons,List.drop_zero];go_wp2;refine NoPanic.normal ?_;clear cl cl2 c2 cs fs lg;go_wp2_with fail;refine KK.out.mono ?_;rintro e w6 ⟨rfl,ρ2,L2,F2⟩;have H6:=(hIq L2 F2)
  clear L2 F2;go_wp2_with fail;go_meet;exact⟨ρ2,rfl,H6.out.1,H6.out.2⟩
 obtain⟨ρ2,rfl,L2,F2⟩:=hcut;have H7:=(hIq L2 F2)
 clear L2 F2 cl hl0 H5;have cr:=H7.out.2.cells HX5.out.2;by_cases h0:rg=0
 · have k1:f2=0∧σ3=σ2:=by
    have e1:=HE.out.2.2.1;have e2:=HE.out.2.2.2;rw[h0,LJ,CK] at e1 e2;exact⟨e1,e2⟩
   have hl2:decide (0<rg)=false:=decide_eq_false (by omega);have hl3:¬0<rg:=by omega
   have K1:=Lib.hid k1;clear k1;clear h0 hr0;go_wp2_with fail;go_ret;refine⟨by rw[K1.out.1];push_cast;rfl,ρ2,by rw[K1.out.2];exact H7.out.1,H7.out.2.GO⟩
 have hl1:=hr0 h0;have hl2:decide (0<rg)=true:=decide_eq_true hl1
 have hS:Sound σ2 (rg::rest):=by
  have:=HL.out.2.2.1;rw[Fp h0] at this;exact this
 obtain⟨m2,g2,cap2,vf2,x2,cur2,hlm,k1,k2,k3,k4,k5,eb,eg,ec,gb2,gB2,KID⟩:=(H7.out.2.drew).kid HIH.out H7.out.1 HL.out.2.2.2.2 hS;rw[←Fp h0, ←HE.out.2.2.1, ←HE.out.2.2.2] at KID
 have eB:wc.drew.heap[w.heap.size]?=some (.cells X 254 (0,0)):=by
  obtain⟨_,_,_,_,e,_⟩:=H7.out.2;exact AQ e
 obtain⟨sd2,hsd2⟩:∃a,a=x2.sides:=⟨_,rfl⟩
 rw[←hsd2] at k4 k5 ec KID;have hws:IntKind.i64.wrap (sd2-1)=sd2-1:=IntWalk.i64_in _ (by omega);obtain⟨sl2,hsl2⟩:∃a,a=ρ2.spots.length:=⟨_,rfl⟩
 rw[←hsl2] at k2 k3 eb;have clx:=AG (Ak eB (Ne.symm gB2) (.int .i64 (sd2-1)) (p:=⟨g2,m2*39+38,none⟩)) HX5.out.2;rw[show wc.drew.setCell ⟨g2,m2*39+38,none⟩ (.int .i64 (sd2-1))=(wc.setCell ⟨g2,m2*39+38,none⟩ (.int .i64 (sd2-1))).drew from rfl] at KID clx;have KK :=Lib.hid KID;have hwm:IntKind.i64.wrap (m2:Int)=(m2:Int):=IntWalk.i64_in _ (by omega);have hms:(m2:Int)<(sl2:Int):=by omega
 have c2:=AG eb (i:=2) rfl;have cs:=AG eg ec;have fs:=Ao eg (m2*39+38);have lg:=Ad eg;have cl2:=AG eB HX5.out.2;clear KID eb eg ec eB hsd2 hsl2 hS h0 hr0 gb2 gB2;subst hlm;go_wp2_with fail;refine AS (fun w0=>w0=wc.drew) 13 [(0,false),(1,false),(2,false),(3,false),(4,false),(5,false),(6,false),(7,false),(8,false),(9,false),(10,false),(11,false),(12,false)] (by kernel_rfl) (by kernel_rfl) rfl ?_
 iterate 13
  refine plan_look rfl rfl (fun w0 hS=>(by subst hS;go_simp;try rfl)) ?_;simp only[Act.put,nAq,nBq,nCq]
 refine Ae ?_;simp only[List.drop_succ_cons,List.drop_zero];go_wp2;refine NoPanic.normal ?_;clear cr cl2 c2 cs fs lg;go_wp2_with fail;refine KK.out.mono ?_;rintro e w6 ⟨rfl,ρ3,L3,F3⟩;have H6:=(hIq L3 F3)
 clear L3 F3;go_wp2_with fail;go_ret;exact⟨by push_cast;rfl,ρ3,H6.out.1,H6.out.2.GO⟩
theorem KM {x:Nat}:∀ {l:List Nat},x∈l→x≤l.sum
 | y::l,h=>by
  rw[List.sum_cons];rcases List.mem_cons.1 h with rfl|h
  · omega
  have:=KM h;omega
theorem Re (b:Nat):∀T,Pv T b:=by
 intro T
 induction T with
 | zero =>
  intro σ ρ m s x rest w F hT hs L h;exfalso;have h1:=L.live;have h2:s.2≤total σ:=KM (List.mem_map.2 ⟨s,List.mem_of_getElem? L.hs,rfl⟩);omega
 | succ T ih =>
  intro σ ρ m s x rest w F hT hs L h;by_cases h1:s.2=1
  · exact UW ih hT hs L h h1
  obtain⟨hd,L1⟩:=L.Am h1;obtain⟨_,_,_,_,_,_,_,f8⟩:=L.fits;have:=L.live;rw[CB hd,CK];refine(PA h L.hx (by omega)).mono ?_;rintro e w' ⟨rfl,a⟩;exact⟨rfl,ρ,L1,RMoved.same h a⟩
end
section
variable {w w' : World} {b : Nat} {F : Nat→Prop} {ρ : Rs} {σ : AD Nd}
def Sp.Hb (x:Sp):Sp := { x with own:=x.own-1 }
theorem Lk.down (L:Lk σ ρ) (G:Good σ) {n:Int} (h1:Store.has σ n=true) (h2:(nd σ n).held≠0) :
 ∃(m:Nat) (s:Nd×Nat) (x:Sp),n=(m:Int)+1∧ρ.spots[m]?=Option.some x∧ρ.sp n=x∧1≤x.own∧LkD (bump σ n (-1)) (ρ.setAt m x.Hb) m s x.Hb∧Sound (bump σ n (-1)) [n]:=by
 obtain⟨s,hs'⟩:=Hj h1;rw[Ay hs'] at h2;obtain⟨m,x,rfl,hlt,hsm,hx,h0,hsp,hk,hk0,hle,hri,hv,hkey,hd,ho,hos⟩:=L.some G hs';obtain⟨b1,b2,b3⟩:=G.sound.GD hs';have hlr:=(List.getElem?_eq_some_iff.1 hx).1;refine⟨m,(BI s.1 (wrap64 (s.1.held + -1)),s.2),x,rfl,hx,hsp,by omega,?_,Sound.bump G.sound hs' ⟨by omega,by omega⟩ (by omega) ?_ (fun k hk=>?_)⟩
 · rw[C8 hsm h0]
   refine⟨L.space,L.free,by simp[Rs.setAt,L.len],List.getElem?_set_self hlt,List.getElem?_set_self hlr,h0,⟨hk,hle,hri,hv,hkey,hd,?_,?_⟩,fun j t y hj ht hy=>?_⟩
   · show x.own-1=wrap64 (s.1.held + -1)
     unfold wrap64;omega
   · show x.own-1+x.sides+1=(s.2:Int)
     omega
   simp only[Rs.setAt] at ht hy;rw[List.getElem?_set_ne (Ne.symm hj)] at ht hy;exact L.slot j t y ht hy
 · simp
 rw[List.count_cons_of_ne (Ne.symm hk)]
theorem SO (h:RAt w b F ρ) (L:Lk σ ρ) (G:Good σ) (n:Int) (hc:¬(Store.has σ n=true∧(nd σ n).held≠0)) :
 Calls Tryz.prog 148 #[.pointer (some ⟨b,0,none⟩),.int .i64 n] w fun e w'=>e=.returned (.tuple #[.int .i64 0,.int .i64 7])∧Adds w w':=by
 have hno:=Cl h;have hh:=EA h n;have hg:=CX h n;obtain⟨hok,ho,hs⟩:=h.1.ok n;obtain⟨N,hN⟩:∃N,N=(ρ.sp n).cells:=⟨_,rfl⟩
 have k0:=Sp.EZ hok;have e0:=L.own G n;rw[←hN] at hg k0;rw[L.has G] at hh;have HN:=Lib.hid hno;have HG:=Lib.hid hg;cases hb:Store.has σ n with
 | false =>
  rw[hb] at hh;have HH:=Lib.hid hh;clear hh hg hok ho hs hN k0 h hb hc hno L G e0;go_enter Tryz.func148,Tryz.ntmps148;go_wp2_with fail;refine HN.out.mono ?_;rintro e w1 ⟨rfl,rfl⟩;go_wp2_with fail;refine HH.out.mono ?_;rintro e w1 ⟨rfl,rfl⟩;go_wp2;go_ret2;exact⟨rfl,Ch.refl _ _⟩
 | true =>
  rw[hb] at hh;have HH:=Lib.hid hh
  have hz:(ρ.sp n).own=0:=by
   rw[e0];exact Classical.byContradiction fun e=>hc ⟨hb,e⟩
  rw[hz] at k0;have hfd:=fun w=>BH (P:=Tryz.prog) (w:=w) Tryz.underlying254 (i:=5) rfl (Tryz.isAgg3 w) k0
  clear hh hg hok ho hs hN k0 h hb hc hno L G e0 hz;go_enter Tryz.func148,Tryz.ntmps148;go_wp2_with fail;refine HN.out.mono ?_;rintro e w1 ⟨rfl,rfl⟩;go_wp2_with fail;refine HH.out.mono ?_;rintro e w1 ⟨rfl,rfl⟩;go_wp2_with fail;refine HG.out.mono ?_;rintro e w1 ⟨rfl,a1⟩;have A1:=Lib.hid a1;clear a1;go_wp2;go_ret2;exact⟨rfl,A1.out⟩
theorem Ph (h:RAt w b F ρ) (L:Lk σ ρ) (G:Good σ) (n:Int) (h1:Store.has σ n=true) (h2:(nd σ n).held≠0) :
 Calls Tryz.prog 148 #[.pointer (some ⟨b,0,none⟩),.int .i64 n] w fun e w'=>e=.returned (.tuple #[.int .i64 ((sweep (bump σ n (-1)) [n] 0).1:Nat),.int .i64 0])∧∃ρ',Lk (sweep (bump σ n (-1)) [n] 0).2 ρ'∧RMoved w w' b F ρ':=by
 have hno:=Cl h;have hh:=EA h n;have hg:=CX h n;rw[L.has G,h1] at hh;obtain⟨m,s,x,rfl,hx,hsp,hown,LD,hS⟩:=L.down G h1 h2;rw[hsp] at hg;obtain⟨hok,hn1,hn2⟩:=h.1.nums x (List.mem_of_getElem? hx);obtain⟨N,hN⟩:∃N,N=x.cells:=⟨_,rfl⟩
 have k0:=Sp.EZ hok;rw[←hN] at hg k0;have hfd:=fun w=>BH (P:=Tryz.prog) (w:=w) Tryz.underlying254 (i:=5) rfl (Tryz.isAgg3 w) k0
 obtain⟨ow,how⟩:∃o,o=x.own:=⟨_,rfl⟩
 rw[←how] at hfd;have hb0:(ow == 0)=false:=by simpa using (show ¬ow=0 by omega)
 have how1:1≤ow:=by omega
 have how2:ow≤2147483648:=by omega
 have HN:=Lib.hid hno;have HG:=Lib.hid hg;have HH:=Lib.hid hh;have HA:=Lib.hid h;have HX:=(hIq hx (aIq hok (aIq hn1 (aIq hn2 how))))
 have HL:=(hIq LD hS)
 clear hh hg hok hN k0 h h1 h2 hno L G LD hS hn1 hn2 how hx hsp hown;go_enter Tryz.func148,Tryz.ntmps148;go_wp2_with fail;refine HN.out.mono ?_;rintro e w1 ⟨rfl,rfl⟩;go_wp2_with fail;refine HH.out.mono ?_;rintro e w1 ⟨rfl,rfl⟩;go_wp2_with fail;refine HG.out.mono ?_;rintro e w1 ⟨rfl,a1⟩;have h:=HA.out.adds a1;obtain⟨hx,hok,hn1,hn2,how⟩:=HX.out;obtain⟨g,cap,cur,vf,hb,hg,q1,q2,q3,q4,q5,_,hat,hex,fg,gb,hfit⟩:=ES h hx;have hl:=h.1.len;have hs:=h.1.space;obtain⟨r1,ch1,hb1⟩:=h.J0 hx hb 37 (.int .i64 (x.own-1)) (by omega) (Sp.IF hok _) (y:=x.Hb) ⟨⟨hok.key,hok.addr,hok.val⟩,⟨by show 0≤x.own-1;omega,by show x.own-1≤_;omega⟩,hn2⟩ ⟨rfl,rfl⟩;have KID:=Re b _ _ _ m s _ [] _ F (Nat.le_refl _) HL.out.2 HL.out.1 r1;have c2:=AG hb (i:=2) rfl;have co:=AG hg (hat 37 _ (by omega) (Sp.EZ hok));have fo:=Ao hg (m*39+37);have lg:=Ad hg;rw[←how] at co ch1 KID;have R1:=(hIq a1 ch1)
 have KK:=Lib.hid KID;have hw1:IntKind.i64.wrap (ow-1)=ow-1:=IntWalk.i64_in _ (by omega);obtain⟨L,hL⟩:∃L,L=ρ.spots.length:=⟨_,rfl⟩
 rw[←hL] at c2 q5 hl;have hml:m≤65535:=by omega
 clear hb hg q1 q2 q3 q4 hok hat hex fg gb hfit h r1 ch1 hb1 how hx hL a1 KID hn1 hn2 HX;go_wp2_with fail;refine KK.out.mono ?_;rintro e w2 ⟨rfl,ρ',L',hm⟩;have H2:=(hIq L' hm)
 clear L' hm;go_wp2;go_ret2;refine⟨rfl,ρ',H2.out.1,?_⟩;obtain⟨F',r,c,f⟩:=H2.out.2;have z1:=R1.out.1.size;have z2:=R1.out.2.size;exact⟨F',r,((R1.out.1.mono (G:=F) (fun _ _ h=>h.elim)).trans R1.out.2 (fun k hk=>.inl hk)).trans c (fun k hk=>.inl hk),fun k hk=>(f k hk).imp id (fun h=>by omega)⟩
theorem Sq (h:RAt w b F ρ) (L:Lk σ ρ) (G:Good σ) (n:Int) :
 Calls Tryz.prog 148 #[.pointer (some ⟨b,0,none⟩),.int .i64 n] w fun e w'=>e=.returned (.tuple #[.int .i64 (BJ σ n).1,.int .i64 (BJ σ n).2.1])∧∃ρ',Lk (BJ σ n).2.2 ρ'∧RMoved w w' b F ρ':=by
 unfold BJ;by_cases hc:Store.has σ n=true∧(nd σ n).held≠0
 · rw[if_pos hc]
   exact Ph h L G n hc.1 hc.2
 rw[if_neg hc];exact(SO h L G n hc).mono fun e w' ⟨he,a⟩=>⟨he,ρ,L,RMoved.same h a⟩
end
section
variable {w0 w w' : World} {b : Nat} {σ σ' : AD Nd} {ρ : Rs} {F G : Nat→Prop}
def ROw (w0 w:World) (b:Nat) (σ:AD Nd) (G:Nat→Prop):Prop:=∃ρ F,RAt w b F ρ∧Lk σ ρ∧(∀k,F k→w0.heap.size≤k)∧Adds w0 w∧∀k,G k→¬F k∧k<w.heap.size
theorem ROw.world (h:ROw w0 w b σ G):Adds w0 w:=by obtain⟨_,_,_,_,_,h3,_⟩:=h;exact h3
theorem ROw.adds (h:ROw w0 w b σ G) (ha:Adds w w'):ROw w0 w' b σ G:=by
 obtain⟨ρ,F,h1,L,h2,h3,h4⟩:=h;exact⟨ρ,F,h1.adds ha,L,h2,h3.trans ha (fun _=>fEq),fun k hk=>⟨(h4 k hk).1,Nat.lt_of_lt_of_le (h4 k hk).2 ha.size⟩⟩
theorem ROw.GO (h1:RAt w b F ρ) (h2:∀k,F k→w0.heap.size≤k) (h3:Adds w0 w) (h4:∀k,G k→¬F k∧k<w.heap.size) {ρ':Rs} (L:Lk σ' ρ') (hm:RMoved w w' b F ρ'):ROw w0 w' b σ' G∧But G w w':=by
 obtain⟨F',g1,g2,g3⟩:=hm;refine⟨⟨ρ',F',g1,L,fun k hk=>(g3 k hk).elim (h2 k) (fun h=>Nat.le_trans h3.size h),h3.trans g2 (fun k hk=>.inr (h2 k hk)),fun k hk=>?_⟩,g2.mono (fun k _ hf hg=>(h4 k hg).1 hf)⟩;obtain⟨p,q⟩:=h4 k hk;exact⟨fun hf=>(g3 k hf).elim p (fun h=>by omega),Nat.lt_of_lt_of_le q g2.size⟩
theorem ROw.leaf (h:ROw w0 w b σ G) (GG:Good σ) (key:List UInt8) (hk:key.length=32) {vv:Value} {bs:List UInt8} (hb:Bytes w vv bs) (v:Value) :
 Calls Tryz.prog 175 #[.pointer (some ⟨b,0,none⟩),.agg (AJ key),vv] w fun e w'=>e=.returned (.tuple #[.int .i64 (BU σ key bs v).1,.int .i64 (BU σ key bs v).2.1])∧ROw w0 w' b (BU σ key bs v).2.2 G∧But G w w':=by
 obtain⟨ρ,F,h1,L,h2,h3,h4⟩:=h;exact(Sw h1 L GG key hk hb v).mono fun e w' ⟨he,ρ',L',hm⟩=>⟨he,ROw.GO h1 h2 h3 h4 L' hm⟩
theorem ROw.inner (h:ROw w0 w b σ G) (GG:Good σ) (d l r:Int) :
 Calls Tryz.prog 177 #[.pointer (some ⟨b,0,none⟩),.int .i64 d,.int .i64 l,.int .i64 r] w fun e w'=>e=.returned (.tuple #[.int .i64 (Af σ d l r).1,.int .i64 (Af σ d l r).2.1])∧ROw w0 w' b (Af σ d l r).2.2 G∧But G w w':=by
 obtain⟨ρ,F,h1,L,h2,h3,h4⟩:=h;exact(RM h1 L GG d l r).mono fun e w' ⟨he,ρ',L',hm⟩=>⟨he,ROw.GO h1 h2 h3 h4 L' hm⟩
theorem ROw.hold (h:ROw w0 w b σ G) (GG:Good σ) (n:Int) :
 Calls Tryz.prog 147 #[.pointer (some ⟨b,0,none⟩),.int .i64 n] w fun e w'=>e=.returned (.int .i64 (Bl σ n).1)∧ROw w0 w' b (Bl σ n).2 G∧But G w w':=by
 obtain⟨ρ,F,h1,L,h2,h3,h4⟩:=h;exact(Uq h1 L GG n).mono fun e w' ⟨he,ρ',L',hm⟩=>⟨he,ROw.GO h1 h2 h3 h4 L' hm⟩
theorem ROw.drop (h:ROw w0 w b σ G) (GG:Good σ) (n:Int) :
 Calls Tryz.prog 148 #[.pointer (some ⟨b,0,none⟩),.int .i64 n] w fun e w'=>e=.returned (.tuple #[.int .i64 (BJ σ n).1,.int .i64 (BJ σ n).2.1])∧ROw w0 w' b (BJ σ n).2.2 G∧But G w w':=by
 obtain⟨ρ,F,h1,L,h2,h3,h4⟩:=h;exact(Sq h1 L GG n).mono fun e w' ⟨he,ρ',L',hm⟩=>⟨he,ROw.GO h1 h2 h3 h4 L' hm⟩
theorem ROw.YK (h:ROw w0 w b σ G):Calls Tryz.prog 162 #[.pointer (some ⟨b,0,none⟩)] w fun e w'=>e=.returned (.bool false)∧w=w':=by
 obtain⟨ρ,F,h1,L,_⟩:=h;exact Cl h1
theorem ROw.kind (h:ROw w0 w b σ G) (GG:Good σ) (n:Int):Calls Tryz.prog 243 #[.pointer (some ⟨b,0,none⟩),.int .i64 n] w fun e w'=>e=.returned (.int .u8 ((nd σ n).kind:Nat))∧Adds w w':=by
 obtain⟨ρ,F,h1,L,_⟩:=h;exact(S4 h1 n).mono fun e w' ⟨he,a⟩=>⟨by rw[he,L.kind GG],a⟩
theorem ROw.YB (h:ROw w0 w b σ G) (GG:Good σ) (n:Int):Calls Tryz.prog 230 #[.pointer (some ⟨b,0,none⟩),.int .i64 n] w fun e w'=>e=.returned (.int .i64 (nd σ n).held)∧Adds w w':=by
 obtain⟨ρ,F,h1,L,_⟩:=h;exact(UN h1 n).mono fun e w' ⟨he,a⟩=>⟨by rw[he,L.own GG],a⟩
theorem ROw.sides (h:ROw w0 w b σ G) (GG:Good σ) (n:Int):Calls Tryz.prog 183 #[.pointer (some ⟨b,0,none⟩),.int .i64 n] w fun e w'=>e=.returned (.tuple #[.int .i64 (nd σ n).left,.int .i64 (nd σ n).right])∧Adds w w':=by
 obtain⟨ρ,F,h1,L,_⟩:=h;exact(Q6 h1 n).mono fun e w' ⟨he,a⟩=>⟨by rw[he,L.left GG,L.right GG],a⟩
theorem Lk.An (L:Lk σ ρ) (GG:Good σ) (n:Int):ρ.An n=Store.An σ n:=by
 have hd:ρ.depth n=if (nd σ n).kind=2 then (nd σ n).depth else -1:=by unfold Rs.depth;exact L.depth GG n
 unfold Rs.An Store.An;rw[L.has GG,hd];by_cases h0:n=0
 · rw[if_pos h0,if_pos h0]
 rw[if_neg h0,if_neg h0];cases hs:σ.get? n with
 | none=>rw[if_pos (DK hs),if_pos (DK hs)]
 | some s =>
  rw[Bq hs,Ay hs];simp only[Bool.true_eq_false,if_false];by_cases h2:s.1.kind=2
  · have:=(GG.fit.inner (BV hs) h2).d0
    have e:s.1.depth=(stat s.1).depth:=rfl;rw[if_pos h2];by_cases hz:s.1.depth=0
    · rw[if_neg (by omega),if_neg (fun h=>h.2 hz)]
    rw[if_pos (by omega),if_pos ⟨h2,hz⟩]
  rw[if_neg h2,if_neg (by omega),if_neg (fun h=>h2 h.1)]
theorem ROw.root (h:ROw w0 w b σ G) (GG:Good σ) (n:Int):Calls Tryz.prog 76 #[.pointer (some ⟨b,0,none⟩),.int .i64 n] w fun e w'=>e=.returned (.int .i64 (An σ n))∧Adds w w':=by
 obtain⟨ρ,F,h1,L,_⟩:=h;exact(Sk h1 n).mono fun e w' ⟨he,a⟩=>⟨by rw[he,L.An GG],a⟩
end
section
variable {w w' : World} {b : Nat} {F : Nat→Prop} {ρ : Rs} {σ : AD Nd}
theorem NY (h:RAt w b F ρ) (L:Lk σ ρ) (G:Good σ) :
 Calls Tryz.prog 96 #[.pointer (some ⟨b,0,none⟩)] w fun e w'=>∃v,e=.returned v∧w'.ownsRow w.heap.size 3 1 v (Ac σ).length (ints (Ac σ))∧Adds w w':=by
 obtain⟨i0,hi,hz0,hz1,hz2⟩:=SlabN.FU;have hl:=h.1.len;have hsp:=h.1.space;rw[L.len] at hl;obtain⟨ao,cap,vf,hb⟩:=h.head;rw[L.len] at hb;have HA:=Lib.hid h;have HB:=Lib.hid hb;have HI:=(hIq hi (aIq hz0 (aIq hz1 hz2)))
 have HG:=(hIq L G)
 obtain⟨n,hn⟩:∃n,n=σ.slots.length:=⟨_,rfl⟩
 have hn65:n≤65536:=by omega
 unfold Ac;rw[←hn] at HB ⊢;clear h hb hi hz0 hz1 hz2 hl hsp L G hn;go_enter Tryz.func96,Tryz.ntmps96;go_wp2;go_loopg [3,4] n (fun g s3 s4 wr=>∃k:Nat,k≤n∧g=n-k∧s4=.int .i64 ((k:Int)+1)∧wr.ownsRow w.heap.size 3 1 s3 (σ.occ k).length (ints (σ.occ k))∧Adds w wr)
 case atStart=>exact⟨0,Nat.zero_le _,rfl,rfl,World.ownsRow_nil _ _ _ _,Ch.refl _ _⟩
 obtain⟨k,hk,rfl,rfl,hown,hA⟩:=hrel;have HOW:=Lib.hid hown;have HAd:=Lib.hid hA;have hNo:=Cl (HA.out.adds hA);have hHas:=EA (HA.out.adds hA) ((k:Int)+1);rw[HG.out.1.has HG.out.2] at hHas;have HNO:=Lib.hid hNo;have HHS:=Lib.hid hHas;have c2:=AG (hA.row HB.out id) (i:=2) rfl;have hol:=σ.GK k;have hk65:(k:Int)≤65536:=by omega
 have hw1:IntKind.i64.wrap ((k:Int)+1+1)=(k:Int)+1+1:=IntWalk.i64_in _ (by omega);by_cases hkl:k<n
 · have hkz:(k:Int)+1≤(n:Int):=by omega
   cases hq:has σ ((k:Int)+1) with
   | false =>
    have hoc:σ.occ (k+1)=σ.occ k:=AD.Ev (by
     cases hx:σ.get? ((k:Int)+1) with
     | none=>rfl
     | some x=>rw[Bq hx] at hq;cases hq)
    rw[hq] at HHS;have HOC:=Lib.hid hoc;clear hoc hq hown hA hNo hHas;go_wp2_with fail;refine HNO.out.mono ?_;rintro e w1 ⟨rfl,rfl⟩;go_wp2_with fail;refine HHS.out.mono ?_;rintro e w1 ⟨rfl,rfl⟩;go_wp2;go_roundg (n-(k+1))
    case measure=>omega
    exact⟨k+1,by omega,rfl,by push_cast;rfl,by rw[HOC.out];exact HOW.out,HAd.out⟩
   | true =>
    obtain⟨s,hx⟩:=Hj hq;have hoc:σ.occ (k+1)=σ.occ k ++ [k+1]:=AD.Eo hx;rw[hq] at HHS;have HOC:=Lib.hid hoc;have hsz:=hA.size;clear hoc hq hown hA hNo hHas hx;go_wp2_with fail;refine HNO.out.mono ?_;rintro e w1 ⟨rfl,rfl⟩;go_wp2_with fail;refine HHS.out.mono ?_;rintro e w1 ⟨rfl,rfl⟩
    go_wp2_with (first
     | (at_builtin;refine wpList_append_own_at _ rfl _ _ 39 rfl w.heap.size 3 i0 (.int .i64 0) 1 8 Tryz.underlying39 HI.out.1 HI.out.2.1 HI.out.2.2.1 HI.out.2.2.2 rfl (by decide) u3 _ _ rfl (HOW.out.alloc _) ⟨wr.heap.size,0,none⟩ 1 1 [.int .i64 ((k:Int)+1)] rfl rfl (cell_one_new _ _ _) (by simp[Value.oneCell']) (by unfold maxLen;omega) (by omega) (by simp;omega) ?_;intro v' w1 hown' hgrow hnil hloc;have HN:=(hIq hown' hgrow);clear hown' hgrow hnil hloc))
    go_roundg (n-(k+1))
    case measure=>omega
    refine⟨k+1,by omega,rfl,by push_cast;rfl,?_,(HAd.out.alloc _).grown HN.out.2 (fun j hj=>.inr (HOW.out.lt j hj).1)⟩;rw[HOC.out];simpa[ints] using HN.out.1
 obtain rfl:k=n:=by omega
 clear hown hA hNo hHas HHS;go_wp2_with fail;refine HNO.out.mono ?_;rintro e w1 ⟨rfl,rfl⟩;go_wp2;go_ret;exact⟨_,rfl,HOW.out,HAd.out⟩
end
section
variable {w0 w w' : World} {b : Nat} {σ : AD Nd} {F G : Nat→Prop}
theorem ROw.Ac (h:ROw w0 w b σ G) (GG:Good σ):Calls Tryz.prog 96 #[.pointer (some ⟨b,0,none⟩)] w fun e w'=>∃v,e=.returned v∧w'.ownsRow w.heap.size 3 1 v (Store.Ac σ).length (ints (Store.Ac σ))∧Adds w w':=by
 obtain⟨ρ,F,h1,L,_⟩:=h;exact NY h1 L GG
end
section
variable {w0 w : World} {b : Nat} {σ : AD Nd} {G : Nat→Prop} {ao : Option Addr} {R : List Int}
theorem G8 (h:ROw w0 w b σ G) (GG:Good σ) (cap:Nat) (hR:Az w ao R) (hl:R.length<4611686018427387904) :
 Calls Tryz.prog 101 #[.pointer (some ⟨b,0,none⟩),.slice ao R.length cap] w fun e w'=>e=.returned (.int .i64 (chk σ R))∧Adds w w':=by
 obtain⟨n,hn⟩:∃n,n=R.length:=⟨_,rfl⟩
 have hno:=h.YK;have hrt:=fun w1 (a:Adds w w1) x=>(h.adds a).root GG x
 rw[←hn] at hl ⊢;have HRO:=Lib.hid hno;have HRT:=Lib.hid hrt;have HR:=Lib.hid hR;have HN:=Lib.hid hn;clear hno hrt hR hn h;by_cases hbig:64<n
 · have hc:chk σ R=4:=by unfold chk;rw[if_pos (by rw[←HN.out];exact hbig)]
   rw[hc];have d64:(64:Int)<(n:Int):=by omega
   clear hc;go_enter Tryz.func101,Tryz.ntmps101;go_wp2_with fail;refine HRO.out.mono ?_;rintro e w1 ⟨rfl,rfl⟩;go_wp2;go_ret;exact⟨rfl,Ch.refl _ _⟩
 have hc:chk σ R=Gh σ R:=by unfold chk;rw[if_neg (by rw[←HN.out];exact hbig)]
 have HC:=Lib.hid hc;have d64:¬(64:Int)<(n:Int):=by omega
 have hn64:n≤64:=by omega
 clear hc hbig hl;go_enter Tryz.func101,Tryz.ntmps101;go_wp2_with fail;refine HRO.out.mono ?_;rintro e w1 ⟨rfl,rfl⟩;go_wp2;go_loopg [5,6] n (fun g s5 s6 wr=>∃k:Nat,s5=.int .i64 k∧k+g=n∧RowKit.Hid (∀x∈R.take k,An σ x=0)∧Adds w wr)
 case atStart=>exact⟨0,rfl,by omega,Lib.hid (fun x hx=>by simp at hx),Ch.refl _ _⟩
 obtain⟨k,rfl,hk,ht,hA⟩:=hrel;have HA:=Lib.hid hA;clear hA;by_cases hkl:k=n
 · subst hkl
   have hk1:¬(k:Int)<(k:Int):=by omega
   go_wp2;go_ret;have h9:Gh σ R=0:=FX.2 (fun x hx=>ht.out x (by rw[List.take_of_length_le (Nat.le_of_eq HN.out.symm)];exact hx));rw[HC.out,h9];exact⟨rfl,HA.out⟩
 have hk1:(k:Int)<(n:Int):=by omega
 have hk2:k<n:=by omega
 obtain⟨g,rfl⟩:∃g,gk=g+1:=⟨gk-1,by omega⟩
 obtain⟨x,hx⟩:∃x,R[k]?=some x:=⟨_,List.getElem?_eq_getElem (by have:=HN.out;omega)⟩
 obtain⟨g1,o1,rfl,q1⟩:=HR.out k x hx;have q1':=HA.out.cell q1 id;have HX:=Lib.hid hx;have HRX:=Lib.hid (HRT.out _ HA.out x);clear hx q1 HR HRT;by_cases he:An σ x=0
 · have hrx:=HRX.out
   rw[he] at hrx;have HRY:=Lib.hid hrx;have HE:=Lib.hid he;clear hrx he;go_wp2_with fail;refine HRY.out.mono ?_;rintro e w2 ⟨rfl,a2⟩;have A2:=Lib.hid (HA.out.trans a2 (fun _=>fEq));clear a2;go_wp2;go_roundg g
   case measure=>omega
   refine⟨k+1,by simp,by omega,Lib.hid (fun y hy=>?_),A2.out⟩;rw[List.take_add_one,HX.out,Option.toList_some,List.mem_append,List.mem_singleton] at hy;rcases hy with hy|rfl
   · exact ht.out y hy
   exact HE.out
 have hsp:Gh σ R=An σ x:=by
  have hlt:=(List.getElem?_eq_some_iff.1 HX.out).1
  have:R=R.take k++x::R.drop (k+1):=by
   conv=>lhs;rw[←List.take_append_drop k R,List.drop_eq_getElem_cons hlt]
   rw[(List.getElem?_eq_some_iff.1 HX.out).2]
  rw[this];exact Hs ht.out he
 have HSP:=Lib.hid hsp;obtain⟨c,hc⟩:∃c,c=An σ x:=⟨_,rfl⟩
 have HCC:=Lib.hid hc;have hrx:=HRX.out;rw[←hc] at hrx he;have HRY:=Lib.hid hrx;clear hrx hc hsp;go_wp2_with fail;refine HRY.out.mono ?_;rintro e w2 ⟨rfl,a2⟩;have A2:=Lib.hid (HA.out.trans a2 (fun _=>fEq));clear a2;go_wp2;go_ret;rw[HC.out,HSP.out, ←HCC.out];exact⟨rfl,A2.out⟩
theorem Mq {n:Nat} (cap:Nat) (hR:Az w ao R) (hn:R.length=n) (hl:n<4611686018427387904) (x:Int) :
 Calls Tryz.prog 182 #[.slice ao n cap,.int .i64 x] w fun e w'=>e=.returned (.bool (decide (x∈R)))∧Adds w w':=by
 have HR:=(hIq hR hn)
 clear hR hn;go_enter Tryz.func182,Tryz.ntmps182;go_wp2;go_loopg [5] n (fun g s5 wr=>∃k:Nat,s5=.int .i64 k∧k+g=n∧RowKit.Hid (x∉R.take k)∧Adds w wr)
 case atStart=>exact⟨0,rfl,by omega,Lib.hid (by simp),Ch.refl _ _⟩
 obtain⟨k,rfl,hk,ht,hA⟩:=hrel;have HA:=Lib.hid hA;clear hA;by_cases hkl:k=n
 · subst hkl
   have hk1:¬(k:Int)<(k:Int):=by omega
   go_wp2;go_ret;have h9:decide (x∈R)=false:=decide_eq_false (fun hm=>ht.out (by rw[List.take_of_length_le (Nat.le_of_eq HR.out.2)];exact hm));rw[h9];exact⟨rfl,HA.out⟩
 have hk1:(k:Int)<(n:Int):=by omega
 have hk2:k<n:=by omega
 obtain⟨g,rfl⟩:∃g,gk=g+1:=⟨gk-1,by omega⟩
 obtain⟨y,hy⟩:∃y,R[k]?=some y:=⟨_,List.getElem?_eq_getElem (by have:=HR.out.2;omega)⟩
 obtain⟨g1,o1,rfl,q1⟩:=HR.out.1 k y hy;have q1':=HA.out.cell q1 id;have HX:=Lib.hid hy;clear hy q1;by_cases he:y=x
 · subst he
   have h9:decide (y∈R)=true:=decide_eq_true (List.mem_of_getElem? HX.out);have H9:=Lib.hid h9;clear h9;go_wp2;go_ret;rw[H9.out];exact⟨rfl,HA.out⟩
 have HE:=Lib.hid he;have he2:(y == x)=false:=by simpa using he
 go_wp2;go_roundg g
 case measure=>omega
 refine⟨k+1,by simp,by omega,Lib.hid (fun hm=>?_),HA.out⟩;rw[List.take_add_one,HX.out,Option.toList_some,List.mem_append,List.mem_singleton] at hm;rcases hm with hm|hm
 · exact ht.out hm
 exact HE.out hm.symm
end
end Go.Proofs.YtooijgcildbnlaaGreat.Store

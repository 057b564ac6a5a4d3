/- Laws of the layers below. -/
import Derived.Test.YtngbdbpofifimaaGreatQm25
set_option maxHeartbeats 3200000
set_option maxRecDepth 100000
set_option linter.unusedVariables false
namespace Go.Proofs.YtngbdbpofifimaaGreat.Store
open Go.RowKit Go.Sort Go.Proofs.YtngbdbpofifimaaGreat.ShaW Go.Proofs.YtngbdbpofifimaaGreat.Path Go.Proofs.YtngbdbpofifimaaGreat.Bk
def Ko (d:Nat) (n:Nat) (k0:List UInt8) (i:Nat) (k:List UInt8):Prop:=Ao k d=(if i<n then 0 else 1)∧d≤common k k0
theorem Rep.Wn {f:View} (hf:Fit f) {h:Int} {d:Nat} {t:Tr} (hr:Rep f h d t):∀e∈t.Ah,e.1.length=32∧Pre e.1 (ndF f h).key d∧h≠0:=fun e he=>by
 obtain⟨h1,h2,_⟩:=hr.Ah hf;rcases hr.live with h0|⟨n,hn⟩
 · rw[h0] at hr;rw[hr.D1 hf.zero] at he;cases he
 rw[Bn hn];refine⟨(h1 e he).1,?_,hf.ne hn⟩;by_cases hk:n.kind=2
 · exact(h2 n hn e he).1 hk
 rw[(h2 n hn e he).2 hk];exact fun _ _=>rfl
theorem Qx {f:View} (hf:Fit f) {d:Nat} (hd:d≤255) {l r:Int} {tl tr:Tr} (hl:Rep f l (d+1) tl) (hr:Rep f r (d+1) tr) (h0:¬(l=0∧r=0)) (h1:l=0→(ndF f r).kind=2) (h2:r=0→(ndF f l).kind=2)
 (g1:(ndF f l).kind=2→(ndF f l).depth=(d:Int)+1) (g2:(ndF f r).kind=2→(ndF f r).depth=(d:Int)+1) :
 fitsB d l r (ndF f l) (ndF f r)=true↔∀i e e0,(tl.Ah++tr.Ah)[i]?=some e→(tl.Ah++tr.Ah)[0]?=some e0→Ko d tl.Ah.length e0.1 i e.1:=by
 have nl:=hl.Wn hf;have nr:=hr.Wn hf;have ml:=(Rep.many hf hl).1;have mr:=(Rep.many hf hr).1
 have keyl:l≠0→(ndF f l).key.length=32:=fun h=>by
  rcases hl.live with h0|⟨n,hn⟩
  · exact absurd h0 h
  rw[Bn hn];exact(hf.all _ _ hn).key
 have keyr:r≠0→(ndF f r).key.length=32:=fun h=>by
  rcases hr.live with h0|⟨n,hn⟩
  · exact absurd h0 h
  rw[Bn hn];exact(hf.all _ _ hn).key
 obtain⟨L,hL⟩:∃L,L=ndF f l:=⟨_,rfl⟩
 obtain⟨R,hR⟩:∃R,R=ndF f r:=⟨_,rfl⟩
 simp only[←hL] at *;simp only[←hR] at *;have hd2:d<256:=by omega
 constructor
 · intro hfit i e e0 he he0
   have bl:l≠0→Ao L.key d=0:=fun h=>by
    have:=FE (OX hfit h);rw[Da hd2] at this;omega
   have br:r≠0→Ao R.key d=1:=fun h=>by
    have:=FE (Ov hfit h);rw[Da hd2] at this;omega
   have hc:l≠0→r≠0→Pre L.key R.key d:=fun a b=>Ec (keyl a) (keyr b) (by have:=RZ hfit a b;omega)
   have hm:=List.mem_of_getElem? he;have hm0:=List.mem_of_getElem? he0
   have pl:∀x∈tl.Ah,∀y∈tl.Ah++tr.Ah,Pre x.1 y.1 d:=fun x hx y hy=>by
    obtain⟨a1,a2,a3⟩:=nl x hx;rcases List.mem_append.1 hy with hy|hy
    · exact(a2.less (Nat.le_succ d)).trans ((nl y hy).2.1.less (Nat.le_succ d)).symm
    obtain⟨b1,b2,b3⟩:=nr y hy;exact(a2.less (Nat.le_succ d)).trans ((hc a3 b3).trans (b2.less (Nat.le_succ d)).symm)
   have pa:∀x∈tl.Ah++tr.Ah,∀y∈tl.Ah++tr.Ah,Pre x.1 y.1 d:=fun x hx y hy=>by
    rcases List.mem_append.1 hx with hx' | hx'
    · exact pl x hx' y hy
    rcases List.mem_append.1 hy with hy' | hy'
    · exact(pl y hy' x hx).symm
    exact((nr x hx').2.1.less (Nat.le_succ d)).trans ((nr y hy').2.1.less (Nat.le_succ d)).symm
   have len:∀x∈tl.Ah++tr.Ah,x.1.length=32:=fun x hx=>(List.mem_append.1 hx).elim (fun h=>(nl x h).1) (fun h=>(nr x h).1)
   refine⟨?_,Cz (len e hm) (len e0 hm0) (by omega) (pa e hm e0 hm0)⟩;by_cases hi:i<tl.Ah.length
   · rw[if_pos hi]
     rw[List.getElem?_append_left hi] at he;obtain⟨a1,a2,a3⟩:=nl e (List.mem_of_getElem? he);rw[a2 d (Nat.lt_succ_self d)];exact bl a3
   rw[if_neg hi];rw[List.getElem?_append_right (by omega)] at he;obtain⟨a1,a2,a3⟩:=nr e (List.mem_of_getElem? he);rw[a2 d (Nat.lt_succ_self d)];exact br a3
 intro hall
 have fl:l≠0→CO L d 0=true∧∃e0,tl.Ah[0]?=some e0∧(tl.Ah++tr.Ah)[0]?=some e0:=fun h=>by
  have hp:=ml h;have hg:tl.Ah[0]?=some tl.Ah[0]:=List.getElem?_eq_getElem hp;have hg':(tl.Ah++tr.Ah)[0]?=some tl.Ah[0]:=by rw[List.getElem?_append_left hp];exact hg
  have hrow:=(hall 0 _ _ hg' hg').1;rw[if_pos (show 0<tl.Ah.length from hp)] at hrow;refine⟨JW g1 ?_,_,hg,hg'⟩;rw[Da hd2, ←(nl _ (List.mem_of_getElem? hg)).2.1 d (Nat.lt_succ_self d),hrow];rfl
 have fr:r≠0→CO R d 1=true∧∃e,tr.Ah[0]?=some e∧(tl.Ah++tr.Ah)[tl.Ah.length]?=some e:=fun h=>by
  have hp:=mr h;have hg:tr.Ah[0]?=some tr.Ah[0]:=List.getElem?_eq_getElem hp;have hg':(tl.Ah++tr.Ah)[tl.Ah.length]?=some tr.Ah[0]:=by rw[List.getElem?_append_right (Nat.le_refl _),Nat.sub_self];exact hg
  have h00:∃e0,(tl.Ah++tr.Ah)[0]?=some e0:=by
   refine⟨(tl.Ah++tr.Ah)[0]'(by rw[List.length_append];omega),List.getElem?_eq_getElem _⟩
  obtain⟨e0,he0⟩:=h00;have hrow:=(hall _ _ _ hg' he0).1;rw[if_neg (Nat.lt_irrefl _)] at hrow;refine⟨JW g2 ?_,_,hg,hg'⟩;rw[Da hd2, ←(nr _ (List.mem_of_getElem? hg)).2.1 d (Nat.lt_succ_self d),hrow];rfl
 unfold fitsB;by_cases hl0:l=0
 · have hr0:r≠0:=fun h=>h0 ⟨hl0,h⟩
   rw[if_pos hl0,if_neg hr0,(fr hr0).1,decide_eq_true (h1 hl0)];rfl
 rw[if_neg hl0];by_cases hr0:r=0
 · rw[if_pos hr0,(fl hl0).1,decide_eq_true (h2 hr0)];rfl
 obtain⟨a1,e0,a2,a3⟩:=fl hl0;obtain⟨b1,e,b2,b3⟩:=fr hr0;have hc:=(hall _ _ _ b3 a3).2;have m1:=nr e (List.mem_of_getElem? b2);have m0:=nl e0 (List.mem_of_getElem? a2);have hp:=Ec m1.1 m0.1 hc;have:d≤common L.key R.key:=Cz (keyl hl0) (keyr hr0) (by omega) (((m0.2.1.less (Nat.le_succ d)).symm.trans hp.symm).trans (m1.2.1.less (Nat.le_succ d)));rw[if_neg hr0,a1,b1,decide_eq_true (by omega)];rfl
theorem Cc {P:Program} {S:World→Prop} {Q:Exit→Act→World→Prop} {l:List Oper} {n i:Nat} {r:List (Nat×Bool)} {a:Act} {w:World} {o:Oper} (ho:l[i]?=some o) (hw:Region.wanted o (yielded l.toArray a.tmps)=true) (ty:TypeId) (x:Operand) (hop:o.op=.load ty x) (g off k:Nat) (hx:a.eval x=.pointer (some ⟨g,off,none⟩))
 {t:TypeId} {cur:Array Value} {fr:Nat×Nat} {d:TypeDesc} (hg:∀w0,S w0→w0.heap[g]?=some (.cells cur t fr)) (hu:P.underlying ty=some d) (hd:d.isRow=true) (hi:(P.info? ty).map (·.size)=some k) (hfit:off+k≤cur.size) (cs:Array Value) (hv:cur.extract off (off+k)=cs)
 (h:BQ P l Q S n r (a.put o.dst (.agg cs)) w):BQ P l Q S n ((i,false)::r) a w:=Fb ho hw ty x hop g off k hx hg hu hd hi hfit cs hv h
theorem DY {P:Program} {w:World} {ops:Array Oper} {rest:List Oper} {o:Oper} {a:Act} {Q:Exit→Act→World→Prop} (hgd:o.guard=none) (t:TypeId) (ho:o.op=.buildSlice t 0 #[])
 (e:TypeId) (ie:TypeInfo) (hu:P.underlying t=some (.slice e)) (hie:P.info? e=some ie)
 (h:wpList P ops Q rest (a.put o.dst (.slice (some ⟨w.heap.size,0,none⟩) 0 0)) (w.alloc (.cells #[] e))):wpList P ops Q (o::rest) a w :=
 wpList_plain hgd fun _ hK=>by
  have hr:(Instr.buildSlice t 0 #[]).run P w=.ok (.slice (some ⟨w.heap.size,0,none⟩) 0 0) (w.alloc (.cells #[] e)):=by
   simp[Instr.buildSlice,run_underlying hu,sizeOf,typeInfo,hie,newRow,Instr.fill,show Array.range 0=#[] from rfl]
  unfold Oper.wp execOp;simp only[ho,List.map_toArray,List.map_nil,Sem.run_bind,hr,Result.andThen_ok];exact hK _ _ h
theorem IL (k n:Nat):((k:Int) == (n:Int))=(k == n):=by
 by_cases h:k=n
 · subst h;simp
 rw[beq_eq_false_iff_ne.2 h,beq_eq_false_iff_ne.2 (by omega)]
def LO (l r:Int) (kx ky:Nat):Bool:=((l == 0)&&(r == 0))||((l == 0)&&(ky == 1))||((r == 0)&&(kx == 1))
def IS (d:Nat) (kx ky:Nat) (dx dy:Int):Bool:=((kx == 2)&&(dx != (d:Int)+1))||((ky == 2)&&(dy != (d:Int)+1))
section
variable {w w' : World} {b : Nat} {F : Nat→Prop} {ρ : Rs} {σ : AG Nd}
theorem Sv {d:Nat} {l r:Int} {L R:Nd} (h:LO l r L.kind R.kind=true):fitsB d l r L R=false:=by
 unfold LO at h;unfold fitsB;by_cases hl:l=0
 · rw[if_pos hl]
   by_cases hr:r=0
   · rw[if_pos hr]
   simp[hl,hr] at h;simp[hr,h]
 rw[if_neg hl];by_cases hr:r=0
 · simp[hl,hr] at h
   simp[hr,h]
 simp[hl,hr] at h
theorem TQ {d:Nat} {l r:Int} {L R:Nd} (hl0:l=0→L.kind=0) (hr0:r=0→R.kind=0) (h:IS d L.kind R.kind L.depth R.depth=true):fitsB d l r L R=false:=by
 unfold IS at h;simp at h
 have hn:∀ {n:Nd} {b:Int},n.kind=2→¬n.depth=(d:Int)+1→CO n d b=false:=fun h1 h2=>by
  unfold CO JM;simp[h1,h2]
 unfold fitsB;rcases h with⟨h1,h2⟩|⟨h1,h2⟩
 · have:l≠0:=fun e=>by rw[hl0 e] at h1;cases h1
   rw[if_neg this,hn h1 h2];split<;>simp
 have:r≠0:=fun e=>by rw[hr0 e] at h1;cases h1
 simp only[if_neg this,hn h1 h2];split<;>simp
theorem SA (G:Good σ) {d:Nat} (hd:d≤255) {l r:Int} (hl:l=0∨has σ l=true) (hr:r=0∨has σ r=true) (h1:LO l r (nd σ l).kind (nd σ r).kind=false) (h2:IS d (nd σ l).kind (nd σ r).kind (nd σ l).depth (nd σ r).depth=false) :
 ∃tl tr,Rep (sk σ) l (d+1) tl∧Rep (sk σ) r (d+1) tr∧0<(tl.Ah++tr.Ah).length∧(fitsB d l r (nd σ l) (nd σ r)=true↔∀i e e0,(tl.Ah++tr.Ah)[i]?=some e→(tl.Ah++tr.Ah)[0]?=some e0→Ko d tl.Ah.length e0.1 i e.1):=by
 have hex:∀ {h:Int},(h=0∨has σ h=true)→((nd σ h).kind=2→(nd σ h).depth=(d:Int)+1)→∃t,Rep (sk σ) h (d+1) t:=fun {h} hh hk=>by
  refine Rep.ex G.fit (255-d) (d+1) h (by omega) (hh.imp id fun hh=>?_);unfold has at hh;obtain⟨s,hs⟩:=Option.isSome_iff_exists.1 hh;rw[Ap hs] at hk;refine⟨_,Bl hs,fun e=>?_⟩;have:=hk e
  show s.1.depth=_
  rw[this];push_cast;rfl
 unfold LO at h1;unfold IS at h2;simp at h1 h2;have g1:(nd σ l).kind=2→(nd σ l).depth=(d:Int)+1:=h2.1;have g2:(nd σ r).kind=2→(nd σ r).depth=(d:Int)+1:=h2.2;obtain⟨tl,htl⟩:=hex hl g1;obtain⟨tr,htr⟩:=hex hr g2;refine⟨tl,tr,htl,htr,?_,?_⟩
 · rw[List.length_append]
   by_cases e:l=0
   · have:=(Rep.many G.fit htr).1 (h1.1.1 e)
     omega
   have:=(Rep.many G.fit htl).1 e;omega
 rw[Ib]
 have kind_of:∀ {h:Int},(h=0∨has σ h=true)→h≠0→(nd σ h).kind≠1→(nd σ h).kind=2:=fun {h} hh h0 hk=>by
  have hh:=hh.resolve_left h0;unfold has at hh;obtain⟨s,hs⟩:=Option.isSome_iff_exists.1 hh;rw[Ap hs] at hk ⊢;rcases Pf G hs with e|e
  · exact absurd e hk
  exact e
 refine Qx G.fit hd htl htr (fun h=>h1.1.1 h.1 h.2) (fun e=>?_) (fun e=>?_) (by rw[Dj];exact g1) (by rw[Dj];exact g2)
 · rw[Dj];exact kind_of hr (h1.1.1 e) (h1.1.2 e)
 rw[Dj];exact kind_of hl (fun h=>h1.1.1 h e) (h1.2 e)
theorem N4 (h:RAt w b F ρ) (L:Lk σ ρ) (G:Good σ) {d:Nat} (hd:d≤255) {l r:Int} (hl:l=0∨has σ l=true) (hr:r=0∨has σ r=true) :
 Calls Tryz.prog 329 #[.pointer (some ⟨b,0,none⟩),.int .i64 (d:Int),.int .i64 l,.int .i64 r] w fun e w'=>e=.returned (.bool (fitsB d l r (nd σ l) (nd σ r)))∧AN w w':=by
 have hgl:=fun w1 (a:AN w w1)=>DJ (h.adds a) l
 have hgr:=fun w1 (a:AN w w1)=>DJ (h.adds a) r
 have hzero:(nd σ 0).kind=0:=by
  have:σ.get? 0=none:=by unfold AG.get?;rw[if_neg (by omega)]
  rw[B9 this];rfl
 have n1:=@Sv d l r (nd σ l) (nd σ r);have n2:=@TQ d l r (nd σ l) (nd σ r) (fun e=>by rw[e];exact hzero) (fun e=>by rw[e];exact hzero);have n3:=SA G hd hl hr;have dl:=L.depth G l;have dr:=L.depth G r;have kl:=L.kind G l;have kr:=L.kind G r;have okl:=(h.1.ok l).1;have okr:=(h.1.ok r).1;obtain⟨N1,hN1⟩:∃N,N=(ρ.sp l).cells:=⟨_,rfl⟩
 obtain⟨N2,hN2⟩:∃N,N=(ρ.sp r).cells:=⟨_,rfl⟩
 have f1:N1.size=39∧(∀v∈N1.toList,v.oneCell'=true)∧N1[0]?=some (.int .u8 ((ρ.sp l).kind:Nat))∧N1[1]?=some (.int .i64 (ρ.sp l).d):=by rw[hN1];exact⟨Sp.AY okl,Sp.cells_one okl,Sp.Ar,Sp.WE⟩
 have f2:N2.size=39∧(∀v∈N2.toList,v.oneCell'=true)∧N2[0]?=some (.int .u8 ((ρ.sp r).kind:Nat))∧N2[1]?=some (.int .i64 (ρ.sp r).d):=by rw[hN2];exact⟨Sp.AY okr,Sp.cells_one okr,Sp.Ar,Sp.WE⟩
 rw[←hN1] at hgl;rw[←hN2] at hgr;clear hN1 hN2;rw[kl] at f1 dl;rw[kr] at f2 dr
 have c2e:IS d (nd σ l).kind (nd σ r).kind (ρ.sp l).d (ρ.sp r).d=IS d (nd σ l).kind (nd σ r).kind (nd σ l).depth (nd σ r).depth:=by
  unfold IS;by_cases e1:(nd σ l).kind=2
  · rw[if_pos e1,if_pos e1] at dl
    by_cases e2:(nd σ r).kind=2
    · rw[if_pos e2,if_pos e2] at dr
      rw[dl,dr]
    have e2':((nd σ r).kind == 2)=false:=beq_eq_false_iff_ne.2 e2;rw[dl,e2',Bool.false_and,Bool.false_and]
  by_cases e2:(nd σ r).kind=2
  · rw[if_pos e2,if_pos e2] at dr
    have e1':((nd σ l).kind == 2)=false:=beq_eq_false_iff_ne.2 e1;rw[dr,e1',Bool.false_and,Bool.false_and]
  have e1':((nd σ l).kind == 2)=false:=beq_eq_false_iff_ne.2 e1;have e2':((nd σ r).kind == 2)=false:=beq_eq_false_iff_ne.2 e2;rw[e1',e2',Bool.false_and,Bool.false_and,Bool.false_and,Bool.false_and]
 rw[←c2e] at n2 n3;obtain⟨res,hres⟩:∃res,res=fitsB d l r (nd σ l) (nd σ r):=⟨_,rfl⟩
 obtain⟨kx,hkx⟩:∃kx,kx=(nd σ l).kind:=⟨_,rfl⟩
 obtain⟨ky,hky⟩:∃ky,ky=(nd σ r).kind:=⟨_,rfl⟩
 obtain⟨dx,hdx⟩:∃dx,dx=(ρ.sp l).d:=⟨_,rfl⟩
 obtain⟨dy,hdy⟩:∃dy,dy=(ρ.sp r).d:=⟨_,rfl⟩
 rw[←hres, ←hkx, ←hky] at n1;rw[←hres, ←hkx, ←hky, ←hdx, ←hdy] at n2 n3;rw[←hkx, ←hdx] at f1;rw[←hky, ←hdy] at f2;rw[←hres];obtain⟨Z,hZ⟩:∃Z,Z=Sp.zero.cells:=⟨_,rfl⟩
 have hzs:=Gx;rw[←hZ] at hzs;have hen:∀(h:Int) (d:Nat) (t:Tr),Rep (sk σ) h d t→∀(w1:World),AN w w1→Calls Tryz.prog 82 #[.pointer (some ⟨b,0,none⟩),.int .i64 h] w1 fun e w'=>∃v out,e=.returned v∧Fi w1 w' F t.Ah v out:=fun _ _ _ hr w1 a=>GV L G hr (h.adds a)
 have hle:∀(h:Int) (d:Nat) (t:Tr),Rep (sk σ) h d t→t.Ah.length≤65536:=fun _ _ _ hr=>Nat.le_trans (JV G hr) (Nat.le_trans G.sound.wf.len G.sound.wf.room.2)
 have hF:∀k,F k→k<w.heap.size:=by obtain⟨_,_,_,_,_,_,_,_,_,_,h8⟩:=h;exact h8
 have HG:=(hIq hgl hgr)
 have HN:=(hIq n1 (aIq n2 n3))
 have HX:=Lib.hid f1;have HY:=Lib.hid f2;have HZ:=(hIq hzs (by rw[hZ];exact Sp.AY Sp.BP:Z.size=39))
 have HE:=(hIq hen (aIq hle hF))
 clear hgl hgr n1 n2 n3 f1 f2 hzs hZ hen hle hF c2e dl dr kl kr okl okr hzero h hres hkx hky hdx hdy hl hr;go_enter Tryz.func329,Tryz.ntmps329;go_wp2_with fail;refine(HG.out.1 _ (Ch.refl _ _)).mono ?_;rintro e w1 ⟨rfl,a1⟩;have A1:=Lib.hid a1;clear a1;go_wp2_with fail;refine(HG.out.2 _ A1.out).mono ?_;rintro e w2 ⟨rfl,a2⟩;have A2:=Lib.hid (A1.out.trans a2 (fun _=>fEq));clear a2
 go_upto_region 2 with(first
  | fail
  | ((with_reducible show zOq (.alloc 262));refine AO rfl 262 rfl (.agg Z) HZ.out.1 ?_;dsimp only[Value.cells];try simp only[World.size_alloc])
  | ((with_reducible show zOq (.store 262 _ _));refine AI rfl 262 _ _ rfl w2.heap.size 0 N1 rfl rfl (AQ (heap_alloc_new _ _) _) (by rw[Cf,HX.out.1]) (by rw[HX.out.1,HZ.out.2];omega) HX.out.2.1 N1 (by rw[AT _ _ (by rw[Array.length_toList,Array.length_toList,HX.out.1,HZ.out.2])]) ?_)
  | ((with_reducible show zOq (.store 262 _ _));refine AI rfl 262 _ _ rfl (w2.heap.size+1) 0 N2 rfl rfl (row_setRow (by simpa using heap_alloc_new (w2.alloc (.cells Z 262)) (.cells Z 262)) (by omega) _) (by rw[Cf,HY.out.1]) (by rw[HY.out.1,HZ.out.2];omega) HY.out.2.1 N2 (by rw[AT _ _ (by rw[Array.length_toList,Array.length_toList,HY.out.1,HZ.out.2])]) ?_))
 have r1:((((w2.alloc (.cells Z 262)).alloc (.cells Z 262)).setRow w2.heap.size N1).setRow (w2.heap.size+1) N2).heap[w2.heap.size]?=some (.cells N1 262 (0,0)):=row_setRow (AK (AQ (heap_alloc_new _ _) _) _) (by omega) _;have r2:((((w2.alloc (.cells Z 262)).alloc (.cells Z 262)).setRow w2.heap.size N1).setRow (w2.heap.size+1) N2).heap[w2.heap.size+1]?=some (.cells N2 262 (0,0)):=AK (row_setRow (by simpa using heap_alloc_new (w2.alloc (.cells Z 262)) (.cells Z 262)) (by omega) _) _;have ad4:AN w ((((w2.alloc (.cells Z 262)).alloc (.cells Z 262)).setRow w2.heap.size N1).setRow (w2.heap.size+1) N2):=(((A2.out.alloc _).alloc _).setRow (.inr A2.out.size) _).setRow (.inr (Nat.le_succ_of_le A2.out.size)) _;obtain⟨B1,hB1⟩:∃B,B=w2.heap.size:=⟨_,rfl⟩
 obtain⟨w4,hw4⟩:∃w4,w4=((((w2.alloc (.cells Z 262)).alloc (.cells Z 262)).setRow w2.heap.size N1).setRow (w2.heap.size+1) N2):=⟨_,rfl⟩
 rw[←hw4] at r1 r2 ad4;rw[←hB1] at r1 r2;simp only[←hw4];simp only[←hB1];clear hw4 hB1;have cx0:=AH r1 HX.out.2.2.1;have cx1:=AH r1 HX.out.2.2.2;have cy0:=AH r2 HY.out.2.2.1;have cy1:=AH r2 HY.out.2.2.2;have R4:=(hIq r1 (aIq r2 ad4))
 clear r1 r2 ad4;simp only[Act.put,nAq,nBq,nCq];go_cut [45] (fun s45 wx=>∃c:Bool,s45=.bool c∧wx=w4∧c=LO l r kx ky)
 case first =>
  have hc1:LO l r kx ky=(((l == 0)&&(r == 0))||((l == 0)&&(ky == 1))||((r == 0)&&(kx == 1))):=rfl;obtain⟨bl,hbl⟩:∃bl:Bool,(l == 0)=bl:=⟨_,rfl⟩
  have hbl':decide (l=0)=bl:=hbl;obtain⟨br,hbr⟩:∃br:Bool,(r == 0)=br:=⟨_,rfl⟩
  have hbr':decide (r=0)=br:=hbr;obtain⟨bx,hbx⟩:∃bx:Bool,(kx == 1)=bx:=⟨_,rfl⟩
  have hbx':((kx:Int) == 1)=bx:=(IL kx 1).trans hbx;have hbx2:decide ((kx:Int)=1)=bx:=hbx';obtain⟨by',hby⟩:∃by':Bool,(ky == 1)=by':=⟨_,rfl⟩
  have hby':((ky:Int) == 1)=by':=(IL ky 1).trans hby
  have hby2:decide ((ky:Int)=1)=by':=hby'
  rw[hbl,hbr,hbx,hby] at hc1;have HC1:=Lib.hid hc1;clear hbx hby hc1;cases bl<;>cases br<;>cases bx<;>cases by'
  all_goals
   go_wp2;go_meet;exact⟨_,rfl,rfl,HC1.out.symm⟩
 obtain⟨c,rfl,rfl,hc⟩:=hcut;cases c with
 | true =>
  have HC:=Lib.hid hc;clear hc;go_wp2;go_ret;exact⟨by rw[HN.out.1 HC.out.symm];rfl,R4.out.2.2⟩
 | false =>
  have HC1:=Lib.hid hc;clear hc;go_upto_region 4 with fail
  try simp only[Act.put,nAq,nBq,nCq]
  obtain⟨w5,hw5⟩:∃w5,w5=wc:=⟨_,rfl⟩
  simp only[←hw5] at *;clear hw5;go_cut [67] (fun s67 wx=>∃c:Bool,s67=.bool c∧wx=w5∧c=IS d kx ky dx dy)
  case first =>
   have hc1:IS d kx ky dx dy=(((kx == 2)&&(dx != (d:Int)+1))||((ky == 2)&&(dy != (d:Int)+1))):=rfl;have hw:wrap64 ((d:Int)+1)=(d:Int)+1:=by unfold wrap64;omega
   obtain⟨bx,hbx⟩:∃bx:Bool,(kx == 2)=bx:=⟨_,rfl⟩
   have hbx':((kx:Int) == 2)=bx:=(IL kx 2).trans hbx;have hbx2:decide ((kx:Int)=2)=bx:=hbx';obtain⟨by',hby⟩:∃by':Bool,(ky == 2)=by':=⟨_,rfl⟩
   have hby':((ky:Int) == 2)=by':=(IL ky 2).trans hby
   have hby2:decide ((ky:Int)=2)=by':=hby'
   obtain⟨ex,hex⟩:∃ex:Bool,(dx != (d:Int)+1)=ex:=⟨_,rfl⟩
   have hex':(!decide (dx=(d:Int)+1))=ex:=hex;obtain⟨ey,hey⟩:∃ey:Bool,(dy != (d:Int)+1)=ey:=⟨_,rfl⟩
   have hey':(!decide (dy=(d:Int)+1))=ey:=hey;rw[hbx,hby,hex,hey] at hc1;have HC2:=Lib.hid hc1;clear hbx hby hc1;cases bx<;>cases by'<;>cases ex<;>cases ey
   all_goals
    go_wp2;go_meet;exact⟨_,rfl,rfl,HC2.out.symm⟩
  obtain⟨c,rfl,rfl,hc⟩:=hcut;cases c with
  | true =>
   have HC:=Lib.hid hc;clear hc;go_wp2;go_ret;exact⟨by rw[HN.out.2.1 HC.out.symm];rfl,R4.out.2.2⟩
  | false =>
   obtain⟨tl,tr,htl,htr,hpos,hiff⟩:=HN.out.2.2 HC1.out.symm hc.symm;have HT:=(hIq htl (aIq htr (aIq hpos hiff)))
   have AD5:=Lib.hid R4.out.2.2;clear hc htl htr hpos hiff HC1 HN R4 cx0 cx1 cy0 cy1 HX HY HZ HG;go_wp2_with fail;refine(HE.out.1 _ _ _ HT.out.1 _ AD5.out).mono ?_;rintro e w6 ⟨v1,o1,rfl,e1⟩;obtain⟨q1,c1,rfl⟩:=e1.1.form;have ad6:AN w w6:=AD5.out.trans e1.2.2.2.2 (fun _=>fEq);have E1:=(hIq e1 ad6)
   clear e1 ad6;go_wp2_with fail;refine(HE.out.1 _ _ _ HT.out.2.1 _ E1.out.2).mono ?_;rintro e w7 ⟨v2,o2,rfl,e2⟩;obtain⟨q2,c2,rfl⟩:=e2.1.form;have ad7:AN w w7:=E1.out.2.trans e2.2.2.2.2 (fun _=>fEq);have len1:o1.length=tl.Ah.length:=by rw[←E1.out.1.2.1,List.length_map]
   have len2:o2.length=tr.Ah.length:=by rw[←e2.2.1,List.length_map]
   have le1:=HE.out.2.1 _ _ _ HT.out.1;have le2:=HE.out.2.1 _ _ _ HT.out.2.1;obtain⟨n,hn⟩:∃n,n=o1.length+o2.length:=⟨_,rfl⟩
   have hrz:RowP (w7.alloc (.cells #[] 86)) w7.heap.size (.slice (some ⟨w7.heap.size,0,none⟩) 0 0) [] :=
    World.ownsRow.base (b:=0) (B4 (heap_alloc_new _ _) (Nat.le_refl 0) (by unfold maxLen;omega) rfl rfl) (fun j hj=>by cases hj;exact Nat.le_refl _)
   have hr1:RowP (w7.alloc (.cells #[] 86)) wc.heap.size (.slice q1 o1.length c1) o1:=(E1.out.1.1.adds e2.2.2.2.2).adds ((Ch.refl _ _).alloc _);have hr2:RowP (w7.alloc (.cells #[] 86)) w6.heap.size (.slice q2 o2.length c2) o2:=e2.1.adds ((Ch.refl _ _).alloc _);have E2:=(hIq e2 (aIq ad7 (aIq len1 (aIq len2 (aIq le1 (aIq le2 hn))))))
   have HRZ:=(hIq hrz (aIq hr1 hr2))
   obtain⟨i0,z0,p1,_⟩:=GR;have HI:=Lib.hid p1;clear e2 ad7 len1 len2 le1 le2 hn hrz hr1 hr2 p1;go_upto_region 7 with fail
   go_wp2_with (first
    | fail
    | ((with_reducible show zOq (.buildSlice 56 _ _));refine DY rfl 56 rfl 86 i0 Tryz.underlying56 HI.out ?_)
    | (at_builtin;refine B5 rfl _ _ rfl rfl rfl HRZ.out.1 HRZ.out.2.1 E1.out.1.2.2.1 (by have:=E2.out.2.2.1;have:=E2.out.2.2.2.2.1;simp;omega) E1.out.1.one (by simp) ?_;intro v8 w8 hr8 hn8 hg8;have ad8:AN w w8:=Ch.grown (E2.out.2.1.alloc _) hg8 (fun k hk=>.inr (by cases hk;exact E2.out.2.1.size));have hs8:w7.heap.size≤w8.heap.size:=Nat.le_trans (by simp) (Ch.grown (F:=fun k=>k=w7.heap.size) (Ch.refl _ _) hg8 (fun k hk=>.inl (by cases hk;rfl))).size;have hr82:RowP w8 w6.heap.size (.slice q2 o2.length c2) o2:=(Ch.grown (F:=fun k=>k=w7.heap.size) (Ch.refl _ _) hg8 (fun k hk=>.inl (by cases hk;rfl))).owns HRZ.out.2.2 (fun k hk e=>by have:=E2.out.1.1.lt k hk;omega);obtain⟨q8,c8,hq8⟩:=hr8.form;rw[List.nil_append] at hr8 hq8;subst hq8;have H8:=(hIq hr8 (aIq ad8 (aIq hr82 hs8)));clear hr8 hn8 hg8 ad8 hr82 hs8)
    | (at_builtin;refine B5 rfl _ _ rfl rfl rfl H8.out.1 H8.out.2.2.1 E2.out.1.2.2.1 (by have:=E2.out.2.2;omega) E2.out.1.one H8.out.2.2.2 ?_;intro v9 w9 hr9 hn9 hg9;have ad9:AN w w9:=Ch.grown H8.out.2.1 hg9 (fun k hk=>.inr (Nat.le_trans E2.out.2.1.size (H8.out.1.lt k hk).1));have hf9:∃ao cap,v9=.slice ao n cap:=by { obtain⟨ao,cap,e⟩:=hr9.form;exact⟨ao,cap,by rw[e,E2.out.2.2.2.2.2.2,List.length_append]⟩ };obtain⟨q9,c9,rfl⟩:=hf9;have H9:=(hIq hr9 ad9);clear hr9 hn9 hg9 ad9))
   have hko:Gr (o1++o2):=fun x hx=>(List.mem_append.1 hx).elim (fun h=>(E1.out.1.2.2.2.1 x h).1) (fun h=>(E2.out.1.2.2.2.1 x h).1)
   have hln:(o1++o2).length=n:=by rw[List.length_append];exact E2.out.2.2.2.2.2.2.symm
   have hents:(o1++o2).map Pr.ent=tl.Ah++tr.Ah:=by rw[List.map_append,E1.out.1.2.1,E2.out.1.2.1]
   have hnp:0<n:=by have:=HT.out.2.2.1;rw[←hents,List.length_map] at this;omega
   obtain⟨g,cap,cur,hv,hb,hg,hsz,hget,_⟩:=H9.out.1.open hko (by rw[hln];exact hnp)
   injection hv with v1 v2 v3;subst v1;clear v2 v3
   have hkey:∀i,i<n→∃k v,k.length=32∧cur.extract (i*33) (i*33+32)=AS k∧(tl.Ah++tr.Ah)[i]?=some (k,v):=fun i hi=>by
    obtain⟨x,hx⟩:∃x,(o1++o2)[i]?=some x:=⟨_,List.getElem?_eq_getElem (by rw[hln];exact hi)⟩
    have hkx:=hko _ (List.mem_of_getElem? hx);refine⟨x.key,x.val,hkx,(CG hkx (hget i _ hx)).1,?_⟩;rw[←hents,List.getElem?_map,hx];rfl
   have HD:=(hIq hg (aIq H9.out.2 (aIq (by rw[←hln];exact hsz:n*33≤cur.size) (aIq hkey (aIq E2.out.2.2.1 hnp)))))
   have HL:Hid ((tl.Ah++tr.Ah).length=n):=Lib.hid (by rw[←hents,List.length_map];exact hln);have hn2:n≤131072:=by have:=E2.out.2.2;omega
   obtain⟨n1,hn1⟩:∃n1,n1=o1.length:=⟨_,rfl⟩
   have HN1:=Lib.hid hn1;rw[←hn1];clear hko hln hents hnp hb hg hsz hget hkey hn1 H9 H8 HRZ E1 E2;have hd2:d<256:=by omega
   go_loopg [14,15] n (fun gh s14 s15 wr=>∃i:Nat,i≤n∧gh=n-i∧s14=.int .i64 (i:Int)∧wr.heap[g]?=some (.cells cur 86 (0,0))∧AN w wr∧∀j e e0,j<i→(tl.Ah++tr.Ah)[j]?=some e→(tl.Ah++tr.Ah)[0]?=some e0→Ko d tl.Ah.length e0.1 j e.1)
   case atStart=>exact⟨0,Nat.zero_le _,rfl,rfl,HD.out.1,HD.out.2.1,fun j e e0 hj=>absurd hj (Nat.not_lt_zero _)⟩
   obtain⟨i,hi,rfl,rfl,hg,hA,hall⟩:=hrel;have HR:=(hIq hg (aIq hA hall))
   clear hg hA hall;by_cases hin:i<n
   · obtain⟨k,v,hk,hkc,hke⟩:=HD.out.2.2.2.1 i hin
     obtain⟨k0,v0,hk0,hkc0,hke0⟩:=HD.out.2.2.2.1 0 HD.out.2.2.2.2.2;have hrb:=Jc k hk d hd2;have hrc:=G3 k k0 hk hk0
     have hif:∀wn:Nat,wn=(if i<n1 then 0 else 1)→((Ao k d=wn∧d≤common k k0)↔Ko d tl.Ah.length k0 i k):=fun wn hw=>by
      unfold Ko;rw[hw,HN1.out,HD.out.2.2.2.2.1]
     obtain⟨K,hK⟩:∃K,K=AS k:=⟨_,rfl⟩
     obtain⟨K0,hK0⟩:∃K0,K0=AS k0:=⟨_,rfl⟩
     obtain⟨kb,hkb⟩:∃kb,kb=Ao k d:=⟨_,rfl⟩
     obtain⟨cm,hcm⟩:∃cm,cm=common k k0:=⟨_,rfl⟩
     rw[←hK] at hkc hrb hrc;rw[←hK0] at hkc0 hrc;rw[←hkb] at hrb hif;rw[←hcm] at hrc hif;have HK:=(hIq hkc (aIq hkc0 (aIq hrb (aIq hrc (aIq hke (aIq hke0 hif))))))
     have hi33:i*33+32≤cur.size∧0*33+32≤cur.size:=by have:=HD.out.2.2.1;omega
     have HS:=Lib.hid hi33;clear hkc hkc0 hrb hrc hke hke0 hif hK hK0 hkb hcm hk hk0 hi33;have e1:decide ((i:Int)<(n:Int))=true:=decide_eq_true (by omega);have e1':(i:Int)<(n:Int):=by omega
     have e1'':decide (i<n)=true:=decide_eq_true hin;obtain⟨wn,hwn⟩:∃wn:Nat,wn=(if i<n1 then 0 else 1):=⟨_,rfl⟩
     have HW:=Lib.hid hwn;clear hwn;go_upto_if 88 with fail;go_cut [15] (fun s15 wx=>s15=.int .i64 (wn:Int)∧wx=wr)
     case first =>
      by_cases hi1:i<n1
      · have q1:¬(n1:Int)≤(i:Int):=by omega
        have q2:¬n1≤i:=by omega
        have HQ:=Lib.hid hi1;clear hi1;go_wp2;go_meet;exact⟨by rw[HW.out,if_pos HQ.out];rfl,rfl⟩
      have q1:(n1:Int)≤(i:Int):=by omega
      have q2:n1≤i:=by omega
      have HQ:=Lib.hid hi1;clear hi1;go_wp2;go_meet;exact⟨by rw[HW.out,if_neg HQ.out];rfl,rfl⟩
     obtain⟨rfl,rfl⟩:=hcut;go_upto_region 14 with fail;have hnp':0<n:=HD.out.2.2.2.2.2;refine AP (fun wz=>wz.heap[g]?=some (.cells cur 86 (0,0))) 23 [(0,false),(1,false),(2,false),(3,false),(4,false),(5,false),(7,false),(6,true),(8,false),(9,false),(10,false),(11,false),(12,false),(13,false),(14,false),(15,false),(16,false),(17,false),(18,false),(20,false),(19,true),(21,false),(22,false)] (by kernel_rfl) (by kernel_rfl) ?_ ?_
     · exact AM HR.out.1
     iterate 4
      refine plan_look rfl rfl (fun w0 hS=>(by clear hS;go_simp;try rfl)) ?_;simp only[Act.put,nAq,nBq,nCq]
     refine Cc (cur:=cur) (t:=86) (fr:=(0,0)) rfl rfl 47 _ rfl g (i*33) 32 rfl (fun w0 hS=>hS) Tryz.underlying47 rfl Ab HS.out.1 K HK.out.1 ?_;simp only[Act.put,nAq,nBq,nCq]
     iterate 2
      refine plan_look rfl rfl (fun w0 hS=>(by clear hS;go_simp;try rfl)) ?_;simp only[Act.put,nAq,nBq,nCq]
     refine AW rfl ?_;go_wp2_with fail;refine(HK.out.2.2.1 _).mono ?_;rintro e wa ⟨rfl,aa⟩;have AA:=(hIq (HR.out.2.1.drew.trans aa (fun _=>fEq)) (aa.row (AM HR.out.1) id))
     clear aa;dsimp only;go_step;refine wpList_nil ?_;change _∧_;refine⟨AA.out.2,?_⟩;by_cases hbw:kb=wn
     · have t1:((kb:Int) != (wn:Int))=false:=by rw[hbw];simp
       have t2:(!decide ((kb:Int)=(wn:Int)))=false:=t1;have HBW:=Lib.hid hbw;clear hbw;refine plan_look (v:=(.bool false)) rfl rfl (fun w0 hS=>(by clear hS;go_simp;try rfl)) ?_;simp only[Act.put,nAq,nBq,nCq];refine plan_look (v:=(.bool false)) rfl rfl (fun w0 hS=>(by clear hS;go_simp;try rfl)) ?_;simp only[Act.put,nAq,nBq,nCq]
       iterate 4
        refine plan_look rfl rfl (fun w0 hS=>(by clear hS;go_simp;try rfl)) ?_;simp only[Act.put,nAq,nBq,nCq]
       refine Cc (cur:=cur) (t:=86) (fr:=(0,0)) rfl rfl 47 _ rfl g (i*33) 32 rfl (fun w0 hS=>hS) Tryz.underlying47 rfl Ab HS.out.1 K HK.out.1 ?_;simp only[Act.put,nAq,nBq,nCq]
       iterate 3
        refine plan_look rfl rfl (fun w0 hS=>(by clear hS;go_simp;try rfl)) ?_;simp only[Act.put,nAq,nBq,nCq]
       refine Cc (cur:=cur) (t:=86) (fr:=(0,0)) rfl rfl 47 _ rfl g (0*33) 32 rfl (fun w0 hS=>hS) Tryz.underlying47 rfl Ab HS.out.2 K0 HK.out.2.1 ?_;simp only[Act.put,nAq,nBq,nCq];refine plan_look rfl rfl (fun w0 hS=>(by clear hS;go_simp;try rfl)) ?_;simp only[Act.put,nAq,nBq,nCq];refine AW rfl ?_;go_wp2_with fail;refine(HK.out.2.2.2.1 _).mono ?_;rintro e wb ⟨rfl,ab⟩;have AB:=(hIq (AA.out.1.trans ab (fun _=>fEq)) (ab.row AA.out.2 id))
       clear ab;dsimp only;go_step;refine wpList_nil ?_;change _∧_;refine⟨AB.out.2,?_⟩;by_cases hcd:cm<d
       · have u1:decide ((cm:Int)<(d:Int))=true:=decide_eq_true (by omega)
         have u2:decide (cm<d)=true:=decide_eq_true hcd;have HCD:=Lib.hid hcd;clear hcd;refine plan_look (v:=(.bool true)) rfl rfl (fun w0 hS=>(by clear hS;go_simp;try rfl)) ?_;simp only[Act.put,nAq,nBq,nCq];refine plan_look (v:=(.bool true)) rfl rfl (fun w0 hS=>(by clear hS;go_simp;try rfl)) ?_;simp only[Act.put,nAq,nBq,nCq];refine AZ ?_;simp only[List.drop_succ_cons,List.drop_zero];go_wp2;refine NoPanic.normal ?_;go_wp2;go_ret
         have hres:res=false:=by
          cases hr:res
          · rfl
          have:=((HK.out.2.2.2.2.2.2 wn HW.out).2 (HT.out.2.2.2.1 hr i _ _ HK.out.2.2.2.2.1 HK.out.2.2.2.2.2.1)).2;exact absurd HCD.out (by omega)
         exact⟨by rw[hres];rfl,AB.out.1⟩
       have u1:decide ((cm:Int)<(d:Int))=false:=decide_eq_false (by omega);have u2:decide (cm<d)=false:=decide_eq_false hcd;have HCD:=Lib.hid hcd;clear hcd;refine plan_look (v:=(.bool false)) rfl rfl (fun w0 hS=>(by clear hS;go_simp;try rfl)) ?_;simp only[Act.put,nAq,nBq,nCq];refine plan_look (v:=(.bool false)) rfl rfl (fun w0 hS=>(by clear hS;go_simp;try rfl)) ?_;simp only[Act.put,nAq,nBq,nCq];refine AZ ?_;simp only[List.drop_succ_cons,List.drop_zero];go_wp2;refine NoPanic.normal ?_;go_wp2;go_roundg (n-(i+1))
       case measure=>omega
       refine⟨i+1,by omega,rfl,by first|rfl|go_num,AB.out.2,AB.out.1,fun j e e0 hj he he0=>?_⟩;by_cases hji:j<i
       · exact HR.out.2.2 j e e0 hji he he0
       obtain rfl:j=i:=by omega
       rw[HK.out.2.2.2.2.1] at he;rw[HK.out.2.2.2.2.2.1] at he0;cases he;cases he0;exact(HK.out.2.2.2.2.2.2 wn HW.out).1 ⟨HBW.out,by have:=HCD.out;omega⟩
     have t1:((kb:Int) != (wn:Int))=true:=by simp;omega
     have t2:(!decide ((kb:Int)=(wn:Int)))=true:=t1;have HBW:=Lib.hid hbw;clear hbw;refine plan_look (v:=(.bool true)) rfl rfl (fun w0 hS=>(by clear hS;go_simp;try rfl)) ?_;simp only[Act.put,nAq,nBq,nCq];refine plan_look (v:=(.bool true)) rfl rfl (fun w0 hS=>(by clear hS;go_simp;try rfl)) ?_;simp only[Act.put,nAq,nBq,nCq]
     iterate 10
      refine BN rfl rfl ?_;simp only[Act.put,nAq,nBq,nCq]
     refine AW rfl ?_;go_wp2;refine⟨AA.out.2,?_⟩
     iterate 1
      refine BN rfl rfl ?_;simp only[Act.put,nAq,nBq,nCq]
     refine plan_look (v:=(.bool true)) rfl rfl (fun w0 hS=>(by clear hS;go_simp;try rfl)) ?_;simp only[Act.put,nAq,nBq,nCq];refine AZ ?_;simp only[List.drop_succ_cons,List.drop_zero];go_wp2;refine NoPanic.normal ?_;go_wp2;go_ret
     have hres:res=false:=by
      cases hr:res
      · rfl
      exact absurd ((HK.out.2.2.2.2.2.2 wn HW.out).2 (HT.out.2.2.2.1 hr i _ _ HK.out.2.2.2.2.1 HK.out.2.2.2.2.2.1)).1 HBW.out
     exact⟨by rw[hres];rfl,AA.out.1⟩
   have e1:decide ((i:Int)<(n:Int))=false:=decide_eq_false (by omega);have e1':¬(i:Int)<(n:Int):=by omega
   have e1'':decide (i<n)=false:=decide_eq_false hin;go_wp2;go_ret;have hres:res=true:=HT.out.2.2.2.2 (fun j e e0 he he0=>HR.out.2.2 j e e0 (by have h1:=(List.getElem?_eq_some_iff.1 he).1;have h2:=HL.out;omega) he he0);exact⟨by rw[hres];rfl,HR.out.2.1⟩
end
end Go.Proofs.YtngbdbpofifimaaGreat.Store

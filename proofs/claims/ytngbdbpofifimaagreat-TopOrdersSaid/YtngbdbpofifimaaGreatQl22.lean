/- Laws of the layers below. -/
import Derived.Test.YtngbdbpofifimaaGreatQl21
import Derived.Lib.SliceRun
set_option maxHeartbeats 3200000
set_option maxRecDepth 100000
set_option linter.unusedVariables false
namespace Go.Proofs.YtngbdbpofifimaaGreat.Law9
open Go.RowKit Go.Sort Go.Proofs.YtngbdbpofifimaaGreat.ShaW Go.Proofs.YtngbdbpofifimaaGreat.Path Go.Proofs.YtngbdbpofifimaaGreat.Store
def MT (a:Option Addr) (cap i:Nat):Option Addr:=if cap=i then a else a.map (·.add (i*33))
theorem U2:(Tryz.prog.info? (Tryz.prog.elem 56)).map (·.size)=some 33:=by kernel_rfl
theorem E9:Tryz.prog.underlying 56=some (.slice (Tryz.prog.elem 56)):=by kernel_rfl
theorem LQ (w:World):(sizeOf (Tryz.prog.elem 56)).run Tryz.prog w=.ok 33 w:=by
 have hs:=U2;cases hq:Tryz.prog.info? (Tryz.prog.elem 56) with
 | none=>rw[hq] at hs;cases hs
 | some inf =>
  rw[hq] at hs;have hs':inf.size=33:=by simpa using hs
  simp[sizeOf,typeInfo,hq,hs']
theorem QV (w:World) (ao:Option Addr) (len cap i:Nat) (hi:i≤len) :
 (Instr.sliceAt 56 (.slice ao len cap) (some (.int .i64 (i:Int))) none none).run Tryz.prog w=.ok (.slice (MT ao cap i) (len-i) (cap-i)) w:=by
 rw[run_sliceAt_slice w _ _ _ _ _ E9,run_slice_l w _ ao len cap E9 .i64 (i:Int) (by omega) (by omega)];simp only[LQ w,Result.andThen_ok,sliced,Int.toNat_natCast];rfl
theorem QL (w:World) (ao:Option Addr) (len cap i:Nat) (hi:i≤cap) :
 (Instr.sliceAt 56 (.slice ao len cap) none (some (.int .i64 (i:Int))) none).run Tryz.prog w=.ok (.slice ao i cap) w:=by
 rw[run_sliceAt_slice w _ _ _ _ _ E9,run_slice_h w _ ao len cap E9 .i64 (i:Int) (by omega) (by omega)]
 have e:(Value.slice (if cap=0 then ao else ao.map (·.add (0*33))) (i-0) (cap-0))=.slice ao i cap:=by
  rw[Nat.zero_mul,Nat.sub_zero,Nat.sub_zero]
  congr 1
  split
  · rfl
  cases ao<;>rfl
 simp only[LQ w,Result.andThen_ok,sliced,Int.toNat_natCast,e]
theorem BA.take {w:World} {ao:Option Addr} {l:List Pr} (h:BA w ao l) (n:Nat):BA w ao (l.take n) :=
 ⟨fun x hx=>h.1 x (List.mem_of_mem_take hx),fun i x hi=>by
  rw[List.getElem?_take] at hi;split at hi
  · exact h.2 i x hi
  cases hi⟩
theorem BA.drop {w:World} {ao:Option Addr} {l:List Pr} (h:BA w ao l) (n cap:Nat) (hc:l.length≤cap):BA w (MT ao cap n) (l.drop n) :=
 ⟨fun x hx=>h.1 x (List.mem_of_mem_drop hx),fun i x hi=>by
  rw[List.getElem?_drop] at hi;obtain⟨g,off,rfl,hp⟩:=h.2 _ x hi;have hn:n+i<l.length:=(List.getElem?_eq_some_iff.1 hi).1;refine⟨g,off+n*33,?_,by rw[show off+n*33+i*33=off+(n+i)*33 by omega];exact hp⟩;unfold MT;rw[if_neg (by omega)];simp[add_plain]⟩
theorem RO {w:World} {g off:Nat} {l:List Pr} (hk:He l) (hl:∀i x,l[i]?=some x→CX w g (off+i*33) x.cells):∀j u,(Bj l)[j]?=some u→w.cell? ⟨g,off+j,none⟩=some u:=fun j u hu=>by
 have hj:=(List.getElem?_eq_some_iff.1 hu).1;rw[EG l hk] at hj;have hi:j / 33<l.length:=by omega
 have hx:l[j / 33]?=some l[j / 33]:=List.getElem?_eq_getElem hi;have hs:=Pr.size (hk _ (List.getElem_mem hi));obtain⟨cur,t,fr,hr,h1,h2⟩:=hl _ _ hx;have hm:j % 33<33:=Nat.mod_lt _ (by omega);have e1:((Bj l).drop (j / 33*33)).take 33=(l[j / 33]).cells.toList:=Nf hk hx
 have e2:(l[j / 33]).cells.toList[j % 33]?=some u:=by
  rw[←e1,List.getElem?_take,if_pos hm,List.getElem?_drop,show j / 33*33+j % 33=j by omega];exact hu
 rw[show off+j=off+j / 33*33+j % 33 by omega];refine AH hr ?_;rw[Array.getElem?_toList, ←h2,Array.getElem?_extract,if_pos (by omega)] at e2;exact e2
theorem V0 {w:World} {l:List Pr} (h:∀x∈l,x.Good w):∀u∈Bj l,u.oneCell'=true:=fun u hu=>by
 obtain⟨x,hx,hm⟩:=List.mem_flatMap.1 hu;exact Pr.one (h x hx) u hm
theorem WX {w:World} {ao:Option Addr} {l:List Pr} (cap:Nat) (h:BA w ao l) (hn:l.length≤4096) :
 Calls Tryz.prog 267 #[.slice ao l.length cap] w fun e w'=>∃ao' cap',e=.returned (.slice ao' l.length cap')∧Adds w w' ∧
  (l ≠ []→∃g cur,ao'=some ⟨g,0,none⟩∧w.heap.size≤g∧l.length≤cap'∧w'.heap[g]?=some (.cells cur 86 (0,0))∧l.length*33≤cur.size∧∀i x,l[i]?=some x→cur.extract (i*33) (i*33+33)=x.cells):=by
 have hk:He l:=fun x hx=>(h.1 x hx).key
 obtain⟨i0,z0,p1,p2,p3,p4,p5⟩:=IS;cases ao with
 | none =>
  have hl:l = []:=by
   cases l with
   | nil=>rfl
   | cons x r =>
    obtain⟨g,off,h1,_⟩:=h.2 0 x rfl;cases h1
  subst hl;have hd:∀w0,(Go.binOp BinOp.eql 56 (.slice none 0 cap) (.slice none 0 0)).run Tryz.prog w0=.ok (.bool true) w0:=fun w0=>Lib.run_eql_slice_nil w0 _ _ none 0 cap 0 0 E9
  clear h hn hk p1 p2 p3 p4 p5;go_enter Tryz.func267,Tryz.ntmps267;go_wp2;go_ret;exact⟨none,0,rfl,Ch.refl _ _,fun h=>absurd rfl h⟩
 | some ad =>
  have hone:=V0 h.1;have hfl:=EG l hk
  have hcells:∀j u,(Bj l)[j]?=some u→(w.alloc (.cells #[] 86)).cell? (ad.add j)=some u:=fun j u hu=>by
   have hj:=(List.getElem?_eq_some_iff.1 hu).1;have hl0:0<l.length:=by omega
   obtain⟨g,off,h1,_⟩:=h.2 0 _ (List.getElem?_eq_getElem hl0);injection h1 with h1;subst h1;rw[add_plain];refine((Ch.refl (fun _=>False) w).alloc _).cell (RO hk (fun i x hx=>?_) j u hu) id;obtain⟨g',off',h1',h2'⟩:=h.2 i x hx;injection h1' with h1';injection h1' with a b;subst a b;exact h2'
  have hbase:(w.alloc (.cells #[] 86)).ownsRow 0 86 33 (.slice (some ⟨w.heap.size,0,none⟩) 0 0) 0 []:=⟨by simp,.inr ⟨w.heap.size,0, #[],rfl,Nat.zero_le _,heap_alloc_new _ _,Nat.le_refl _,Nat.zero_le _,rfl,by simp⟩⟩
  have HI:=(hIq p1 (aIq p2 (aIq p3 (aIq p4 p5))))
  have HC:=(hIq hcells (aIq hone hfl))
  have HB:=Lib.hid hbase;have HK:=(hIq hk hn)
  obtain⟨len,hlen⟩:∃len,len=l.length:=⟨_,rfl⟩
  obtain⟨F,hF⟩:∃F,F=Bj l:=⟨_,rfl⟩
  rw[←hlen];have hd:∀w0,(Go.binOp BinOp.eql 56 (.slice (some ad) len cap) (.slice none 0 0)).run Tryz.prog w0=.ok (.bool false) w0:=fun w0=>Lib.run_eql_slice_nil w0 _ _ (some ad) len cap 0 0 E9
  have HL:=Lib.hid hlen;have HF:=Lib.hid hF;clear hcells hone hfl hbase hk hn p1 p2 p3 p4 p5 h hlen hF;go_enter Tryz.func267,Tryz.ntmps267
  go_wp2_with (first
   | fail
   | (at_builtin;refine Ak rfl _ _ 56 rfl 86 i0 z0 33 56 Tryz.underlying56 HI.out.1 HI.out.2.1 HI.out.2.2.1 HI.out.2.2.2.1 HI.out.2.2.2.2 (by decide) _ 0 [] rfl HB.out ad len cap F rfl (by rw[HF.out,HL.out,HC.out.2.2]) (by rw[HF.out];exact HC.out.1) (by rw[HF.out];exact HC.out.2.1) (by have:=HK.out.2;have:=HL.out;unfold maxLen;omega) (by have:=HK.out.2;have:=HL.out;omega) ?_;intro v' w4 own' grow' loc'))
  rw[Nat.zero_add,List.nil_append,HF.out] at own';obtain⟨o4,c4,hv4⟩:=Aj own';subst hv4;have hA4:Adds w w4:=((Ch.refl _ w).alloc _).grown grow' (fun k hk=>by cases hk;exact .inr (Nat.le_refl _));have hrow:EK w4 0 (.slice o4 len c4) l:=by rw[HL.out] at own' ⊢;exact own'
  have H4:=(hIq hA4 (aIq hrow own'))
  have LOC:=Lib.hid loc';clear own' grow' loc' hA4 hrow;go_wp2;go_ret;refine⟨o4,c4,rfl,H4.out.1,fun hne=>?_⟩;have hl0:0<l.length:=List.length_pos_iff.2 hne;have hlen:=HL.out;subst hlen;obtain⟨g,cap',cur,e1,_,e3,e4,e5,_⟩:=EK.open H4.out.2.1 HK.out.1 hl0
  injection e1 with e1 _ e2;subst e1 e2
  have hcap:l.length≤c4:=by
   obtain⟨_,⟨_,h1⟩|⟨g',cap',cur',h1,_,_,h2,_⟩⟩:=H4.out.2.2
   · omega
   injection h1 with _ _ h1;omega
  refine⟨g,cur,rfl,?_,hcap,e3,e4,e5⟩;rcases LOC.out with e|e
  · have:(some g:Option Nat)=some w.heap.size:=e
    injection this with this;omega
  have h1:=e g rfl;have h2:=World.size_alloc w (.cells #[] 86);omega
theorem Sn {w:World} {ao:Option Addr} {l:List Pr} (cap:Nat) (h:BA w ao l) (hn:l.length≤4096) (d:Nat) (hd:d<256) :
 Calls Tryz.prog 270 #[.slice ao l.length cap,.int .i64 (d:Int)] w fun e w'=>Adds w w'∧∃n:Nat,e=.returned (.int .i64 n)∧n≤l.length∧(∀i x,i<n→l[i]?=some x→AU x.key d=0)∧(∀x,l[n]?=some x→AU x.key d=1):=by
 obtain⟨len,hlen⟩:∃len,len=l.length:=⟨_,rfl⟩
 rw[←hlen] at hn ⊢;have HL:=Lib.hid hlen;have HP:=Lib.hid h;have HD:=Lib.hid hd;clear h hlen hd;go_enter Tryz.func270,Tryz.ntmps270;go_wp2;go_loopg [5] len (fun g s5 wr=>∃k:Nat,s5=.int .i64 k∧k+g=len∧(∀i x,i<k→l[i]?=some x→AU x.key d=0)∧Adds w wr)
 case atStart=>exact⟨0,rfl,by omega,fun i x hi=>absurd hi (Nat.not_lt_zero _),Ch.refl _ _⟩
 obtain⟨k,rfl,hk,h0,hA⟩:=hrel;have HA:=Lib.hid hA;have H0:=Lib.hid h0;have HKG:=Lib.hid hk;clear hA h0;by_cases hkl:k=len
 · have hx1:decide ((k:Int)<(len:Int))=false:=decide_eq_false (by omega)
   have hx1':decide (k<len)=false:=decide_eq_false (by omega);have HKL:=Lib.hid hkl;clear hk hkl;go_wp2;go_ret
   exact⟨HA.out,k,rfl,by have:=HKL.out;omega,H0.out,fun x hx=>by
    have:=(List.getElem?_eq_some_iff.1 hx).1;have:=HKL.out;have:=HL.out;omega⟩
 have hx1:decide ((k:Int)<(len:Int))=true:=decide_eq_true (by omega);have hx1':decide (k<len)=true:=decide_eq_true (by omega);have hkl':k<l.length:=by have:=HL.out;omega
 have hklen:(k:Int)<(len:Int):=by omega
 have hklen':k<len:=by omega
 obtain⟨x,hx⟩:∃x,l[k]?=some x:=⟨_,List.getElem?_eq_getElem hkl'⟩
 obtain⟨g0,off,rfl,hp⟩:=HP.out.2 k x hx;have hg:=HP.out.1 x (List.mem_of_getElem? hx);have hsz:=Pr.size hg.key;obtain⟨cur,ty,fr,c1,c2,c3⟩:=hp;rw[hsz] at c2 c3;obtain⟨ck,_⟩:=FH hg.key c3;have hb:=Gp x.key hg.key d wr;rw[DQ HD.out] at hb;obtain⟨K,hK⟩:∃K,K=AK x.key:=⟨_,rfl⟩
 rw[←hK] at ck hb;have HC:=(hIq (HA.out.row c1 id) (aIq c2 ck))
 have HX:=Lib.hid hx;have HB:=Lib.hid hb;have hlt:=Au x.key d;obtain⟨b,hbb⟩:∃b,b=AU x.key d:=⟨_,rfl⟩
 rw[←hbb] at hlt HB;have HBB:=Lib.hid hbb;clear hk hkl hg hsz c1 c2 c3 ck hK hx hb hbb;rcases hlt with rfl|rfl
 · go_wp2_with (first
    | fail
    | ((with_reducible show zOq (.load 47 _));refine AG rfl 47 _ rfl g0 (off+k*33) rfl HC.out.1 Tryz.underlying47 rfl AY (by have:=HC.out.2.1;omega) K HC.out.2.2 ?_)
    | ((with_reducible show zOq (.load 47 _));refine Ba (by first|rfl|(simp[Region.wanted];done)) 47 _ rfl g0 (off+k*33) rfl HC.out.1 Tryz.underlying47 rfl AY (by have:=HC.out.2.1;omega) K HC.out.2.2 ?_))
   refine HB.out.mono ?_;rintro e w2 ⟨rfl,a2⟩;have A2:=Lib.hid (HA.out.trans a2 (fun _=>fEq));clear a2;go_wp2;go_roundg (gk-1)
   case measure=>have:=HKG.out;omega
   exact⟨k+1,rfl,by have:=HKG.out;omega,fun i y hi hy=>by
    rcases Nat.lt_or_ge i k with h|h
    · exact H0.out i y h hy
    have:i=k:=by omega
    subst this;have hx:=HX.out;rw[hx] at hy;cases hy;exact HBB.out.symm,A2.out⟩
 go_wp2_with (first
  | fail
  | ((with_reducible show zOq (.load 47 _));refine AG rfl 47 _ rfl g0 (off+k*33) rfl HC.out.1 Tryz.underlying47 rfl AY (by have:=HC.out.2.1;omega) K HC.out.2.2 ?_)
  | ((with_reducible show zOq (.load 47 _));refine Ba (by first|rfl|(simp[Region.wanted];done)) 47 _ rfl g0 (off+k*33) rfl HC.out.1 Tryz.underlying47 rfl AY (by have:=HC.out.2.1;omega) K HC.out.2.2 ?_))
 refine HB.out.mono ?_;rintro e w2 ⟨rfl,a2⟩;have A2:=Lib.hid (HA.out.trans a2 (fun _=>fEq));clear a2;go_wp2;go_ret
 exact⟨A2.out,k,rfl,by omega,H0.out,fun y hy=>by
  have hx:=HX.out;rw[hx] at hy;cases hy;exact HBB.out.symm⟩
theorem J0 (ao:Option Addr) (cap:Nat) (d:Int) (w:World):Calls Tryz.prog 236 #[.slice ao 0 cap,.int .i64 d] w fun e w'=>e=.returned (.agg (AK Tag.CJ))∧Adds w w':=by
 obtain⟨Z,hZ⟩:∃Z,Z=AK (List.replicate 32 0):=⟨_,rfl⟩
 have hzh:=GC;rw[←hZ] at hzh;have hZs:Z.size=32:=by rw[hZ];rfl
 obtain⟨O,hO⟩:∃O,O=AK Tag.CJ:=⟨_,rfl⟩
 have hos:O.size=32:=by rw[hO,AN];exact Tag.AT _ _
 have ho1:=Ae Tag.CJ;have hcall:=Tag.JL (w.alloc (.cells Z 35));rw[←hO] at ho1 hcall;have HZ:=(hIq hzh hZs)
 have HO:=(hIq hO (aIq hos ho1))
 have HC:=Lib.hid hcall;clear hzh hZs hZ hO hos ho1 hcall;go_enter Tryz.func236,Tryz.ntmps236
 go_wp2_with (first
  | fail
  | ((with_reducible show zOq (.alloc 35));refine AI rfl 35 rfl (.agg Z) HZ.out.1 ?_;dsimp only[Value.cells];try simp only[World.size_alloc]))
 refine HC.out.mono ?_;rintro e w4 ⟨rfl,hc4⟩;have Z4:=Lib.hid (hc4.row (heap_alloc_new w (.cells Z 35)) id);have W4:=Lib.hid (((Ch.refl (fun _=>False) w).alloc _).trans hc4 (fun _=>fEq));clear hc4
 go_wp2_with (first
  | fail
  | ((with_reducible show zOq (.store 35 _ _));refine AE rfl 35 _ _ rfl w.heap.size 0 O rfl rfl Z4.out (by rw[Bl,HO.out.2.1]) (by rw[HO.out.2.1,HZ.out.2];omega) HO.out.2.2 O (by rw[AJ _ _ (by rw[Array.length_toList,Array.length_toList,HO.out.2.1,HZ.out.2])]) ?_))
 exact AW (p:=4) rfl rfl (AF Z4.out _) Tryz.underlying35 rfl (by rw[Bl,HO.out.2.1]) rfl ⟨by rw[HO.out.1],W4.out.setRow (.inr (Nat.le_refl _)) _⟩
theorem PY {w:World} {ao:Option Addr} {x:Pr} (cap:Nat) (h:BA w ao [x]) (hv:x.val.length≤1024) (d:Int):Calls Tryz.prog 236 #[.slice ao 1 cap,.int .i64 d] w fun e w'=>e=.returned (.agg (AK (Tag.DK x.key (Tag.Av x.val))))∧Adds w w':=by
 obtain⟨Z,hZ⟩:∃Z,Z=AK (List.replicate 32 0):=⟨_,rfl⟩
 have hzh:=GC;rw[←hZ] at hzh;have hZs:Z.size=32:=by rw[hZ];rfl
 obtain⟨O,hO⟩:∃O,O=AK (Tag.DK x.key (Tag.Av x.val)):=⟨_,rfl⟩
 have hos:O.size=32:=by rw[hO,AN];exact Tag.AT _ _
 have ho1:=Ae (Tag.DK x.key (Tag.Av x.val));rw[←hO] at ho1;obtain⟨g0,off,rfl,hp⟩:=h.2 0 x rfl;rw[Nat.zero_mul,Nat.add_zero] at hp;have hg:=h.1 x (by simp);have hsz:=Pr.size hg.key;obtain⟨cur,ty,fr,c1,c2,c3⟩:=hp;rw[hsz] at c2 c3;obtain⟨ck,cv⟩:=FH hg.key c3;obtain⟨xo,xc,hxv,_,_⟩:=hg.val.form;rw[hxv] at cv;obtain⟨n,hnl⟩:∃n,n=x.val.length:=⟨_,rfl⟩
 obtain⟨K,hK⟩:∃K,K=AK x.key:=⟨_,rfl⟩
 obtain⟨V,hV⟩:∃V,V=AK (Tag.Av x.val):=⟨_,rfl⟩
 have hval:=fun w1 (a:Adds w w1)=>Tag.Dh (hg.val.Af a (fun _ _ h=>h)) (fun h0 k hk=>Nat.lt_of_lt_of_le (hg.blk h0 k hk) a.size) (by omega)
 rw[hxv] at hval;have hleaf:=fun w1=>Tag.IV x.key (Tag.Av x.val) hg.key (Tag.AT _ _) w1
 rw[←hnl] at cv hval;rw[←hK] at ck hleaf;rw[←hV] at hval hleaf;rw[←hO] at hleaf;have hw1:Adds w (w.alloc (.cells Z 35)).drew:=((Ch.refl _ _).alloc _).drew;have HC:=(hIq c1 (aIq c2 (aIq ck cv)))
 have HZ:=(hIq hzh hZs)
 have HO:=(hIq hO (aIq hos ho1))
 have HV:=Lib.hid hval;have HLF:=Lib.hid hleaf;have W1:=Lib.hid hw1;clear hzh hZs hZ hO hos ho1 h hv hg hsz c1 c2 c3 ck cv hxv hnl hK hV hval hleaf hw1;go_enter Tryz.func236,Tryz.ntmps236
 go_wp2_with (first
  | fail
  | ((with_reducible show zOq (.alloc 35));refine AI rfl 35 rfl (.agg Z) HZ.out.1 ?_;dsimp only[Value.cells];try simp only[World.size_alloc]))
 refine AO (fun w0=>w0.heap[g0]?=some (.cells cur ty fr)∧Adds w w0) 11 [(0,false),(1,false),(2,false),(3,false),(4,false),(5,false),(6,false),(7,false),(8,true),(9,true),(10,true)] (by kernel_rfl) (by kernel_rfl) ?_ ?_
 · exact⟨W1.out.row HC.out.1 id,W1.out⟩
 iterate 3
  refine plan_look rfl rfl (fun w0 hS=>(by clear hS;go_simp;try rfl)) ?_;simp only[Act.put,nAq,nBq,nCq]
 refine Ah (cur:=cur) (t:=ty) (fr:=fr) rfl rfl 47 _ rfl g0 off 32 rfl (fun w0 hS=>hS.1) Tryz.underlying47 rfl AY (by have:=HC.out.2.1;omega) K HC.out.2.2.1 ?_;simp only[Act.put,nAq,nBq,nCq]
 iterate 3
  refine plan_look rfl rfl (fun w0 hS=>(by clear hS;go_simp;try rfl)) ?_;simp only[Act.put,nAq,nBq,nCq]
 refine plan_look (v:=.slice xo n xc) rfl rfl (fun w0 hS=>(by have e0:=AH hS.1 HC.out.2.2.2;clear hS;go_simp;try rfl)) ?_;simp only[Act.put,nAq,nBq,nCq];refine AV rfl ?_;go_wp2_with fail;refine(HV.out _ W1.out).mono ?_;rintro e w4 ⟨rfl,a4⟩;have A4:=(hIq (W1.out.trans a4 (fun _=>fEq)) (a4.row (AP (heap_alloc_new w (.cells Z 35))) id))
 clear a4;dsimp only;go_step;refine wpList_nil ?_;change _∧_;refine⟨⟨A4.out.1.row HC.out.1 id,A4.out.1⟩,?_⟩;refine AV rfl ?_;go_wp2_with fail;refine(HLF.out w4).mono ?_;rintro e w5 ⟨rfl,a5⟩;have A5:=(hIq (A4.out.1.trans a5 (fun _=>fEq)) (a5.row A4.out.2 id))
 clear a5;dsimp only;go_step;refine wpList_nil ?_;change _∧_;refine⟨⟨A5.out.1.row HC.out.1 id,A5.out.1⟩,?_⟩;refine AV rfl ?_
 go_wp2_with (first
  | fail
  | ((with_reducible show zOq (.store 35 _ _));refine AE rfl 35 _ _ rfl w.heap.size 0 O rfl rfl A5.out.2 (by rw[Bl,HO.out.2.1]) (by rw[HO.out.2.1,HZ.out.2];omega) HO.out.2.2 O (by rw[AJ _ _ (by rw[Array.length_toList,Array.length_toList,HO.out.2.1,HZ.out.2])]) ?_))
 have W6:=Lib.hid (A5.out.1.setRow (.inr (Nat.le_refl _)) O);refine⟨⟨W6.out.row HC.out.1 id,W6.out⟩,?_⟩;refine AZ ?_;simp only[List.drop_succ_cons,List.drop_zero];go_wp2;refine NoPanic.normal ?_;go_wp2;exact AW (p:=4) rfl rfl (AF A5.out.2 _) Tryz.underlying35 rfl (by rw[Bl,HO.out.2.1]) rfl ⟨by rw[HO.out.1],W6.out⟩
theorem TP {w:World} {ao:Option Addr} {l:List Pr} (cap:Nat) (d:Nat) (hd:d<256) (h:BA w ao l) (hl2:2≤l.length) (hcap:l.length≤cap) (hn:l.length≤4096) (DL DR:List UInt8) (h1:DL.length=32) (h2:DR.length=32)
 (hih:∀n,n≤l.length→(∀i x,i<n→l[i]?=some x→AU x.key d=0)→(∀x,l[n]?=some x→AU x.key d=1)→∀w',Adds w w' →
  (Calls Tryz.prog 236 #[.slice ao n cap,.int .i64 (wrap64 ((d:Int)+1))] w' fun e w''=>e=.returned (.agg (AK DL))∧Adds w' w'') ∧
  (Calls Tryz.prog 236 #[.slice (MT ao cap n) (l.length-n) (cap-n),.int .i64 (wrap64 ((d:Int)+1))] w' fun e w''=>e=.returned (.agg (AK DR))∧Adds w' w'')) :
 Calls Tryz.prog 236 #[.slice ao l.length cap,.int .i64 (d:Int)] w fun e w'=>e=.returned (.agg (AK (Tag.DI DL DR)))∧Adds w w':=by
 obtain⟨Z,hZ⟩:∃Z,Z=AK (List.replicate 32 0):=⟨_,rfl⟩
 have hzh:=GC;rw[←hZ] at hzh;have hZs:Z.size=32:=by rw[hZ];rfl
 obtain⟨O,hO⟩:∃O,O=AK (Tag.DI DL DR):=⟨_,rfl⟩
 have hos:O.size=32:=by rw[hO,AN];exact Tag.AT _ _
 have ho1:=Ae (Tag.DI DL DR);have hinn:=fun w1=>Tag.Hr DL DR h1 h2 w1
 rw[←hO] at ho1 hinn;obtain⟨BL,hBL⟩:∃B,B=AK DL:=⟨_,rfl⟩
 obtain⟨BR,hBR⟩:∃B,B=AK DR:=⟨_,rfl⟩
 rw[←hBL] at hih hinn;rw[←hBR] at hih hinn;have hw1:Adds w (w.alloc (.cells Z 35)):=(Ch.refl _ _).alloc _;have hpt:=Sn cap (h.Af hw1 (fun _=>fEq)) hn d hd;obtain⟨len,hlen⟩:∃len,len=l.length:=⟨_,rfl⟩
 rw[←hlen] at hl2 hcap hn hih hpt ⊢;have e0:((len:Int) == 0)=false:=by simp;omega
 have e1:((len:Int) == 1)=false:=by simp;omega
 have e0':decide ((len:Int)=0)=false:=decide_eq_false (by omega);have e1':decide ((len:Int)=1)=false:=decide_eq_false (by omega);have HZ:=(hIq hzh hZs)
 have HO:=(hIq hO (aIq hos ho1))
 have HI:=Lib.hid hinn;have HPT:=Lib.hid hpt;have HIH:=Lib.hid hih;have HN:=(hIq hcap hl2)
 have W1:=Lib.hid hw1;clear hzh hZs hZ hO hos ho1 hinn hpt hih hcap hl2 hw1 hn h hlen hd h1 h2 hBL hBR;go_enter Tryz.func236,Tryz.ntmps236
 go_wp2_with (first
  | fail
  | ((with_reducible show zOq (.alloc 35));refine AI rfl 35 rfl (.agg Z) HZ.out.1 ?_;dsimp only[Value.cells];try simp only[World.size_alloc]))
 refine HPT.out.mono ?_;rintro e w2 ⟨a2,n,rfl,hnl,hb0,hb1⟩;have hsh:∀w0:World,(Instr.sliceAt 56 (.slice ao len cap) none (some (.int .i64 (n:Int))) none).run Tryz.prog w0=.ok (.slice ao n cap) w0:=fun w0=>QL w0 ao len cap n (by have:=HN.out.1;omega)
 have hsl:∀w0:World,(Instr.sliceAt 56 (.slice ao len cap) (some (.int .i64 (n:Int))) none none).run Tryz.prog w0=.ok (.slice (MT ao cap n) (len-n) (cap-n)) w0:=fun w0=>QV w0 ao len cap n hnl
 obtain⟨av,hav⟩:∃av,av=MT ao cap n:=⟨_,rfl⟩
 have hih:=fun w' (a:Adds w w')=>HIH.out n hnl hb0 hb1 w' a
 rw[←hav] at hsl hih;obtain⟨ln,hln⟩:∃ln,ln=len-n:=⟨_,rfl⟩
 obtain⟨cn,hcn⟩:∃cn,cn=cap-n:=⟨_,rfl⟩
 rw[←hln, ←hcn] at hsl hih;have HH:=Lib.hid hih;have A2:=(hIq ((W1.out.trans a2 (fun _=>fEq)).drew) (a2.row (heap_alloc_new w (.cells Z 35)) id))
 clear a2 hnl hb0 hb1 hih hav hln hcn;go_wp2_with fail;refine AO (fun w0=>Adds w w0) 14 [(0,false),(1,false),(2,false),(3,false),(4,false),(6,false),(7,false),(8,false),(9,false),(10,false),(5,true),(11,true),(12,true),(13,true)] (by kernel_rfl) (by kernel_rfl) ?_ ?_
 · exact A2.out.1
 iterate 2
  refine plan_look rfl rfl (fun w0 hS=>(by clear hS;go_simp;try rfl)) ?_;simp only[Act.put,nAq,nBq,nCq]
 refine plan_look (v:=.slice ao n cap) rfl rfl (fun w0 hS=>(by clear hS;go_simp;try rfl)) ?_;simp only[Act.put,nAq,nBq,nCq];refine plan_look rfl rfl (fun w0 hS=>(by clear hS;go_simp;try rfl)) ?_;simp only[Act.put,nAq,nBq,nCq];refine plan_look (v:=.int .i64 (wrap64 ((d:Int)+1))) rfl rfl (fun w0 hS=>(by clear hS;go_simp;exact IntWalk.i64_left _)) ?_;simp only[Act.put,nAq,nBq,nCq]
 iterate 2
  refine plan_look rfl rfl (fun w0 hS=>(by clear hS;go_simp;try rfl)) ?_;simp only[Act.put,nAq,nBq,nCq]
 refine plan_look (v:=.slice av ln cn) rfl rfl (fun w0 hS=>(by clear hS;go_simp;try rfl)) ?_;simp only[Act.put,nAq,nBq,nCq];refine plan_look rfl rfl (fun w0 hS=>(by clear hS;go_simp;try rfl)) ?_;simp only[Act.put,nAq,nBq,nCq];refine plan_look (v:=.int .i64 (wrap64 ((d:Int)+1))) rfl rfl (fun w0 hS=>(by clear hS;go_simp;exact IntWalk.i64_left _)) ?_;simp only[Act.put,nAq,nBq,nCq];refine AV rfl ?_;go_wp2_with fail;refine(HH.out _ A2.out.1).1.mono ?_;rintro e w3 ⟨rfl,a3⟩;have A3:=(hIq (A2.out.1.trans a3 (fun _=>fEq)) (a3.row (AP A2.out.2) id))
 clear a3;dsimp only;go_step;refine wpList_nil ?_;change _∧_;refine⟨A3.out.1,?_⟩;refine AV rfl ?_;go_wp2_with fail;refine(HH.out _ A3.out.1).2.mono ?_;rintro e w4 ⟨rfl,a4⟩;have A4:=(hIq (A3.out.1.trans a4 (fun _=>fEq)) (a4.row A3.out.2 id))
 clear a4;dsimp only;go_step;refine wpList_nil ?_;change _∧_;refine⟨A4.out.1,?_⟩;refine AV rfl ?_;go_wp2_with fail;refine(HI.out w4).mono ?_;rintro e w5 ⟨rfl,a5⟩;have A5:=(hIq (A4.out.1.trans a5 (fun _=>fEq)) (a5.row A4.out.2 id))
 clear a5;dsimp only;go_step;refine wpList_nil ?_;change _∧_;refine⟨A5.out.1,?_⟩;refine AV rfl ?_
 go_wp2_with (first
  | fail
  | ((with_reducible show zOq (.store 35 _ _));refine AE rfl 35 _ _ rfl w.heap.size 0 O rfl rfl A5.out.2 (by rw[Bl,HO.out.2.1]) (by rw[HO.out.2.1,HZ.out.2];omega) HO.out.2.2 O (by rw[AJ _ _ (by rw[Array.length_toList,Array.length_toList,HO.out.2.1,HZ.out.2])]) ?_))
 have W6:=Lib.hid (A5.out.1.setRow (.inr (Nat.le_refl _)) O);refine⟨W6.out,?_⟩;refine AZ ?_;simp only[List.drop_succ_cons,List.drop_zero];go_wp2;refine NoPanic.normal ?_;go_wp2;exact AW (p:=4) rfl rfl (AF A5.out.2 _) Tryz.underlying35 rfl (by rw[Bl,HO.out.2.1]) rfl ⟨by rw[HO.out.1],W6.out⟩
theorem XZ:∀(m:Nat),m≤256→∀ {w:World} {ao:Option Addr} {l:List Pr} (cap:Nat) {k:List UInt8},BA w ao l→l.length≤cap→l.length≤4096→AS.Ok (l.map Pr.ent) k (256-m)→C8 (l.map Pr.ent)→(∀x∈l,x.val.length≤1024) →
 Calls Tryz.prog 236 #[.slice ao l.length cap,.int .i64 ((256-m:Nat):Int)] w fun e w'=>e=.returned (.agg (AK (tree m (l.map Pr.ent)).dig))∧Adds w w':=by
 intro m
 induction m with
 | zero =>
  intro _ w ao l cap k h hcap hn hO hr hv;have hf:=hO.few
  match l,h,hv,hf with
  | [],_,_,_=>exact J0 ao cap _ w
  | [x],h,hv,_ =>
   rw[List.map_cons,List.map_nil,BU];exact PY cap h (hv x (by simp)) _
  | _::_::_,_,_,hf=>simp at hf
 | succ m ih =>
  intro hm w ao l cap k h hcap hn hO hr hv
  match hl:l,h,hv with
  | [],_,_ =>
   rw[List.map_nil,CD];exact J0 ao cap _ w
  | [x],h,hv =>
   rw[List.map_cons,List.map_nil,BU];exact PY cap h (hv x (by simp)) _
  | x::y::r,h,hv =>
   rw[←hl] at hcap hn hO hr h hv ⊢;have hl2:2≤l.length:=by rw[hl];simp
   have hd:256-(m+1)<256:=by omega
   have hdd:256-(m+1)=255-m:=by omega
   have hd1:wrap64 (((256-(m+1):Nat):Int)+1)=((256-m:Nat):Int):=by unfold wrap64;omega
   rw[Bu (by rw[List.length_map];exact hl2),Tr.dig];refine TP cap _ hd h hl2 hcap hn _ _ (Tr.B9 _) (Tr.B9 _) fun n hnl hb0 hb1 w' a=>?_
   have e0:∀i p,i<n→(l.map Pr.ent)[i]?=some p→AU p.1 (256-(m+1))=0:=fun i p hi hp=>by
    rw[List.getElem?_map] at hp;cases hx:l[i]? with
    | none=>rw[hx] at hp;cases hp
    | some x =>
     rw[hx] at hp;cases hp;exact hb0 i x hi hx
   have e1:∀p,(l.map Pr.ent)[n]?=some p→AU p.1 (256-(m+1))=1:=fun p hp=>by
    rw[List.getElem?_map] at hp;cases hx:l[n]? with
    | none=>rw[hx] at hp;cases hp
    | some x =>
     rw[hx] at hp;cases hp;exact hb1 x hx
   obtain⟨s0,s1⟩:=JA hO hd hr e0 e1;obtain⟨k0,ok0⟩:=hO.sides 0 (by omega);obtain⟨k1,ok1⟩:=hO.sides 1 (by omega);rw[show 256-(m+1)+1=256-m by omega] at ok0 ok1;rw[hdd] at s0 s1 ok0 ok1;rw[hd1,s0,s1, ←List.map_take, ←List.map_drop];rw[s0, ←List.map_take] at ok0;rw[s1, ←List.map_drop] at ok1;have t0:=ih (by omega) cap ((h.Af a (fun _=>fEq)).take n) (by rw[List.length_take];omega) (by rw[List.length_take];omega) ok0 (by rw[List.map_take];exact hr.take n) (fun x hx=>hv x (List.mem_of_mem_take hx));have t1:=ih (by omega) (cap-n) ((h.Af a (fun _=>fEq)).drop n cap hcap) (by rw[List.length_drop];omega) (by rw[List.length_drop];omega) ok1 (by rw[List.map_drop];exact hr.drop n) (fun x hx=>hv x (List.mem_of_mem_drop hx));rw[List.length_take,Nat.min_eq_left hnl] at t0;rw[List.length_drop] at t1;exact⟨t0,t1⟩
def Nw:Pr:=⟨List.replicate 32 0,.slice none 0 0,[]⟩
theorem Lm:(Tryz.prog.info? 86).bind (·.zero)=some (.agg Nw.cells):=by kernel_rfl
def Df (l:List Pr):Prop:=l.length≤4096∧(∀x∈l,x.val.length≤1024)∧(l.map (·.key)).Nodup
def seen (l:List Pr) (k:Nat):List (List UInt8):=((l.take k).map (·.key)).reverse
theorem SM {l:List Pr} {k:Nat} {x:Pr} (hx:l[k]?=some x):seen l (k+1)=x.key::seen l k:=by
 have htk:l.take (k+1)=l.take k ++ [x]:=by rw[List.take_add_one,hx];rfl
 unfold seen;rw[htk];simp
theorem Ry:∀(l:List Pr),(∀x∈l,x.key.length=32∧x.vv.oneCell'=true)→∃d:List PrK,d.map PrK.p=l
 | [],_=>⟨[],rfl⟩
 | x::l,h=>by
  obtain⟨d,hd⟩:=Ry l (fun y hy=>h y (by simp[hy]));have hx:=h x (by simp);exact⟨⟨x,hx.1,hx.2⟩::d,by simp[hd]⟩
theorem Oi {l:List Pr} {k:Nat} {x:Pr} (hx:l[k]?=some x) (h:1024<x.val.length):¬Df l:=fun hf=>by
 have:=hf.2.1 x (List.mem_of_getElem? hx);omega
theorem OF {l:List Pr} {k:Nat} {x:Pr} (hx:l[k]?=some x) (h:x.key∈seen l k):¬Df l:=fun hf=>by
 unfold seen at h;rw[List.mem_reverse] at h;have htk:l.take (k+1)=l.take k ++ [x]:=by rw[List.take_add_one,hx];rfl
 have hn:((l.take (k+1)).map (·.key)).Nodup:=hf.2.2.sublist ((List.take_sublist _ l).map _);rw[htk,List.map_append,List.nodup_append] at hn;exact hn.2.2 _ h _ (by simp) rfl
theorem Rg {l:List Pr} {k:Nat} {x:Pr} (hx:l[k]?=some x) (h:x.key∉seen l k) (hn:((l.take k).map (·.key)).Nodup):((l.take (k+1)).map (·.key)).Nodup:=by
 unfold seen at h;rw[List.mem_reverse] at h;have htk:l.take (k+1)=l.take k ++ [x]:=by rw[List.take_add_one,hx];rfl
 rw[htk,List.map_append,List.nodup_append];refine⟨hn,by simp,fun a ha b hb=>?_⟩;simp at hb;rw[hb];exact fun e=>h (e▸ha)
theorem Ql {w w1:World} {ao ao':Option Addr} {l:List Pr} {cap':Nat} (h:BA w ao l) (a1:Adds w w1) (hn:l.length≤4096)
 (hc:l ≠ []→∃g cur,ao'=some ⟨g,0,none⟩∧w.heap.size≤g∧l.length≤cap'∧w1.heap[g]?=some (.cells cur 86 (0,0))∧l.length*33≤cur.size∧∀i x,l[i]?=some x→cur.extract (i*33) (i*33+33)=x.cells) :
 Calls Tryz.prog 268 #[.slice ao' l.length cap',.func (.func 269) #[] #[]] w1 fun e w2=>e=.returned (.tuple #[])∧Adds w w2 ∧
  ∃l',l'.length=l.length∧(l.length≤cap'∨l = [])∧l'.Perm l∧C8 (l'.map Pr.ent)∧BA w2 ao' l':=by
 by_cases hl:l = []
 · subst hl
   exact(AnyF.slices_SortFunc_none M1 ao' cap' (.func (.func 269) #[] #[]) w1).mono fun e w2 ⟨he,hw⟩=>⟨he,by rw[hw];exact a1,[],rfl,.inr rfl,.refl _,List.Pairwise.nil,fun x hx=>by simp at hx,fun i x hx=>by simp at hx⟩
 obtain⟨g,cur,rfl,hg,hcap,hrow,hsz,hx⟩:=hc hl;obtain⟨d,hd⟩:=Ry l (fun x hx=>⟨(h.1 x hx).key,by obtain⟨ao,cap,e,_⟩:=(h.1 x hx).val.form;rw[e];rfl⟩);have hdl:d.length=l.length:=by rw[←hd,List.length_map]
 have hH:HoldsK FX 33 w1 g 0 d.toArray:=P8 hrow fun i x hi=>by
  have hi':d[i]?=some x:=by simpa using hi
  have hil:=(List.getElem?_eq_some_iff.1 hi').1;exact⟨by omega,hx i x.p (by rw[←hd,List.getElem?_map,hi'];rfl)⟩
 have hs:=Yf (cap:=cap') hH (Ac hrow) (by simp;omega);rw[List.size_toArray,hdl] at hs;refine hs.mono fun e w2 ⟨he,d',h1,h2,h3,h4,h5⟩=>⟨he,a1.trans h5 (fun k hk=>.inr (by omega)),d'.toList.map PrK.p,by simp[h1],.inl hcap,?_,?_,?_⟩
 · rw[←hd];exact h2.map _
 · unfold C8
   rw[List.map_map,List.pairwise_map];exact h3
 have hw2:Adds w w2:=a1.trans h5 (fun k hk=>.inr (by omega));have hp:(d'.toList.map PrK.p).Perm l:=by rw[←hd];exact h2.map _
 refine⟨fun x hx=>(h.1 x (hp.mem_iff.1 hx)).Af hw2 (fun _=>fEq),fun i x hi=>⟨g,0,rfl,?_⟩⟩;rw[List.getElem?_map] at hi;cases hy:d'[i]? with
 | none=>rw[Array.getElem?_toList,hy] at hi;cases hi
 | some y =>
  rw[Array.getElem?_toList,hy] at hi;cases hi;exact QI h4 hy
theorem S2 {w:World} {ao:Option Addr} {l:List Pr} (cap:Nat) (h:BA w ao l) :
 Calls Tryz.prog 235 #[.slice ao l.length cap] w fun e w'=>Adds w w'∧∃v c,e=.returned (.tuple #[v,.int .i64 c])∧(c=0∨c≠0∧v=.slice none 0 0)∧(c=0↔Df l) ∧
  (c=0→∃ao' cap' l',v=.slice ao' l.length cap'∧l'.length=l.length∧(l.length≤cap'∨l = [])∧l'.Perm l∧C8 (l'.map Pr.ent)∧BA w' ao' l'):=by
 obtain⟨len,hlen⟩:∃len,len=l.length:=⟨_,rfl⟩
 by_cases hlong:4096<l.length
 · have hi:decide ((4096:Int)<(len:Int))=true:=decide_eq_true (by omega)
   have hi':decide (4096<len)=true:=decide_eq_true (by omega);have HF:=Lib.hid (show ¬Df l from fun hf=>by have:=hf.1;omega);rw[←hlen] at hlong ⊢;clear h hlen hlong;go_enter Tryz.func235,Tryz.ntmps235;go_wp2;go_ret2;exact⟨Ch.refl _ _,_,_,rfl,.inr ⟨by decide,rfl⟩,⟨fun h=>absurd h (by decide),fun hf=>absurd hf HF.out⟩,fun h=>absurd h (by decide)⟩
 have hi:decide ((4096:Int)<(len:Int))=false:=decide_eq_false (by omega);have hi':decide (4096<len)=false:=decide_eq_false (by omega);have hle:len≤4096:=by omega
 obtain⟨ZP,hZP⟩:∃Z,Z=Nw.cells:=⟨_,rfl⟩
 have hz:=Lm;rw[←hZP] at hz;have hzs:ZP.size=33:=by rw[hZP];exact Pr.size rfl
 rw[←hlen] at hlong ⊢;have HL:=(hIq hlen hle)
 have HP:=Lib.hid h;have HZ:=(hIq hz hzs)
 have hmm:=@run_makeMap Tryz.prog;clear h hlen hlong hz hzs hZP;go_enter Tryz.func235,Tryz.ntmps235;go_wp2;have ms:=IG.made w;have HM:=Lib.hid ms;clear ms hi hi' hmm;go_loopg [14] len (fun g s14 wr=>∃k:Nat,s14=.int .i64 k∧k+g=len∧IG wr w.heap.size k (seen l k)∧(∀x∈l.take k,x.val.length≤1024)∧((l.take k).map (·.key)).Nodup∧Adds w wr)
 case atStart=>exact⟨0,rfl,by omega,HM.out,fun x hx=>by simp at hx,by simp,(Ch.refl _ _).alloc _⟩
 obtain⟨k,rfl,hk,hset,hval,hnd,hA⟩:=hrel;have HA:=Lib.hid hA;have HS:=Lib.hid hset;have HV:=(hIq hval hnd)
 have HKG:=Lib.hid hk;clear hA hset hval hnd HM;by_cases hkl:k=len
 · have hx1:decide ((k:Int)<(len:Int))=false:=decide_eq_false (by omega)
   have hx1':decide (k<len)=false:=decide_eq_false (by omega);have hfine:Df l:=⟨by have:=HL.out;omega,by have:=HV.out.1;rwa [List.take_of_length_le (by have:=HL.out;omega)] at this,by have:=HV.out.2;rwa [List.take_of_length_le (by have:=HL.out;omega)] at this⟩
   have HF:=Lib.hid hfine;have hcl:=WX cap (HP.out.Af HA.out (fun _=>fEq)) (by have:=HL.out;omega);rw[←HL.out.1] at hcl;have HCL:=Lib.hid hcl;clear hk hkl hfine hcl;go_wp2_with fail;refine HCL.out.mono ?_;rintro e w2 ⟨ao',cap',rfl,a2,hcp⟩;rw[HL.out.1] at hcp;have hso:=Ql (ao':=ao') (cap':=cap') (HP.out.Af HA.out (fun _=>fEq)) a2 (by have:=HL.out;omega) hcp;rw[←HL.out.1] at hso;have HSO:=Lib.hid hso;clear a2 hcp hso;go_wp2_with fail;refine HSO.out.mono ?_;rintro e w3 ⟨rfl,a3,l',s1,s2,s3,s4,s5⟩;have H3:=(hIq (HA.out.trans a3 (fun _=>fEq)) (aIq s1 (aIq s2 (aIq s3 (aIq s4 s5)))))
   clear a3 s1 s2 s3 s4 s5;go_wp2;go_ret2;exact⟨H3.out.1,_,_,rfl,.inl rfl,⟨fun _=>HF.out,fun _=>rfl⟩,fun _=>⟨ao',cap',l',rfl,H3.out.2⟩⟩
 have hx1:decide ((k:Int)<(len:Int))=true:=decide_eq_true (by omega);have hx1':decide (k<len)=true:=decide_eq_true (by omega);have hkl':k<l.length:=by have:=HL.out;omega
 have hklen:(k:Int)<(len:Int):=by omega
 have hklen':k<len:=by omega
 obtain⟨x,hx⟩:∃x,l[k]?=some x:=⟨_,List.getElem?_eq_getElem hkl'⟩
 obtain⟨g0,off,rfl,hp⟩:=HP.out.2 k x hx;have hg:=HP.out.1 x (List.mem_of_getElem? hx);have hsz:=Pr.size hg.key;obtain⟨cur,ty,fr,c1,c2,c3⟩:=hp;rw[hsz] at c2 c3;obtain⟨C,hC⟩:∃C,C=x.cells:=⟨_,rfl⟩
 obtain⟨K,hK⟩:∃K,K=AK x.key:=⟨_,rfl⟩
 have hone:=Pr.one hg;have hkey:=Pr.BX hg.key;have hvv:=Pr.Hc hg.key;obtain⟨xo,xc,hxv,_,_⟩:=hg.val.form;obtain⟨n,hnl⟩:∃n,n=x.val.length:=⟨_,rfl⟩
 rw[hxv, ←hnl] at hvv;rw[←hC] at c3 hsz hone hkey hvv;rw[←hK] at hkey;have HC:=(hIq (HA.out.row c1 id) (aIq c2 (aIq c3 (aIq hsz (aIq hone hkey)))))
 have HX:=(hIq hx (aIq hK (aIq hg.key hnl)))
 have HVV:=Lib.hid hvv;clear hk hkl hg hsz c1 c2 c3 hC hK hone hkey hxv hnl hx hvv
 go_upto_region 7 with(first
  | fail
  | ((with_reducible show zOq (.load 86 _));refine AG rfl 86 _ rfl g0 (off+k*33) rfl HC.out.1 Tryz.underlying86 rfl Fu (by have:=HC.out.2.1;omega) C HC.out.2.2.1 ?_)
  | ((with_reducible show zOq (.alloc 86));refine AI rfl 86 rfl (.agg ZP) HZ.out.1 ?_;dsimp only[Value.cells];try simp only[World.size_alloc])
  | ((with_reducible show zOq (.store 86 _ _));refine AE rfl 86 _ _ rfl wr.heap.size 0 C rfl rfl (heap_alloc_new _ _) (by rw[Fu,HC.out.2.2.2.1]) (by rw[HC.out.2.2.2.1,HZ.out.2];omega) HC.out.2.2.2.2.1 C (by rw[AJ _ _ (by rw[Array.length_toList,Array.length_toList,HC.out.2.2.2.1,HZ.out.2])]) ?_))
 obtain⟨wx,hwx⟩:∃wx,wx=(wr.alloc (.cells ZP 86)).setRow wr.heap.size C:=⟨_,rfl⟩
 rw[←hwx];have ax:Ch (fun _=>False) wr wx:=by rw[hwx];exact((Ch.refl _ _).alloc _).setRow (.inr (Nat.le_refl _)) _
 have rx:wx.heap[wr.heap.size]?=some (.cells C 86 (0,0)):=by rw[hwx];exact AF (heap_alloc_new wr (.cells ZP 86)) C
 have sx:=HS.out.Af ax id;have q32:=AH rx HVV.out;have RX:=Lib.hid rx;have SX:=Lib.hid sx;have AX:=Lib.hid (HA.out.trans ax (fun _=>fEq));clear hwx ax rx sx;by_cases hb:1024<n
 · have hx2:decide ((1024:Int)<(n:Int))=true:=decide_eq_true (by omega)
   have hx2':decide (1024<n)=true:=decide_eq_true (by omega);have HB:=Lib.hid hb;clear hb;go_wp2;go_ret2;exact⟨AX.out,_,_,rfl,.inr ⟨by decide,rfl⟩,⟨fun h=>absurd h (by decide),fun hf=>absurd hf (Oi HX.out.1 (by have:=HB.out;have:=HX.out.2.2.2;omega))⟩,fun h=>absurd h (by decide)⟩
 have hx2:decide ((1024:Int)<(n:Int))=false:=decide_eq_false (by omega);have hx2':decide (1024<n)=false:=decide_eq_false (by omega);have HB:=Lib.hid hb;have hlk:=SX.out.look HX.out.2.2.1;rw[←HX.out.2.1] at hlk;clear hb;by_cases hm:x.key∈seen l k
 · rw[decide_eq_true hm] at hlk
   have HMM:=Lib.hid hm;clear hm
   go_wp2_with (first
    | fail
    | ((with_reducible show zOq (.load 47 _));refine AG rfl 47 _ rfl wr.heap.size 0 rfl RX.out Tryz.underlying47 rfl AY (by rw[HC.out.2.2.2.1];omega) K HC.out.2.2.2.2.2 ?_))
   go_ret2;exact⟨AX.out,_,_,rfl,.inr ⟨by decide,rfl⟩,⟨fun h=>absurd h (by decide),fun hf=>absurd hf (OF HX.out.1 HMM.out)⟩,fun h=>absurd h (by decide)⟩
 rw[decide_eq_false hm] at hlk;have HMM:=Lib.hid hm;clear hm
 go_wp2_with (first
  | fail
  | ((with_reducible show zOq (.load 47 _));refine AG rfl 47 _ rfl wr.heap.size 0 rfl RX.out Tryz.underlying47 rfl AY (by rw[HC.out.2.2.2.1];omega) K HC.out.2.2.2.2.2 ?_)
  | (at_mapUpdate;refine Sd SX.out (by have:=HL.out.2;unfold maxLen;omega) rfl _ _ _ rfl rfl x.key HX.out.2.2.1 (by rw[←HX.out.2.1];rfl) rfl ?_;intro w5 set5 ch5))
 have A5:=(hIq (aIq set5 (AX.out.trans ch5 (fun k hk=>.inr (by omega)))) trivial)
 clear set5 ch5 hlk q32;go_wp2;go_roundg (gk-1)
 case measure=>have:=HKG.out;omega
 refine⟨k+1,rfl,by have:=HKG.out;omega,by rw[SM HX.out.1];exact A5.out.1.1,fun y hy=>?_,Rg HX.out.1 HMM.out HV.out.2,A5.out.1.2⟩;have htk:l.take (k+1)=l.take k ++ [x]:=by rw[List.take_add_one,HX.out.1];rfl
 rw[htk,List.mem_append,List.mem_singleton] at hy;rcases hy with hy|rfl
 · exact HV.out.1 y hy
 have:=HB.out;have:=HX.out.2.2.2;omega
theorem Aw {P:Program} {S:World→Prop} {Q:Exit→Act→World→Prop} {l:List Oper} {n i:Nat} {r:List (Nat×Bool)} {a:Act} {w:World} {o:Oper} (ho:l[i]?=some o) (hw:Region.wanted o (yielded l.toArray a.tmps)=true) (ty:TypeId) (x:Operand) (hop:o.op=.load ty x) (g off k:Nat) (hx:a.eval x=.pointer (some ⟨g,off,none⟩))
 {t:TypeId} {cur:Array Value} {fr:Nat×Nat} {d:TypeDesc} (hg:∀w0,S w0→w0.heap[g]?=some (.cells cur t fr)) (hu:P.underlying ty=some d) (hd:d.isRow=true) (hi:(P.info? ty).map (·.size)=some k) (hfit:off+k≤cur.size) (cs:Array Value) (hv:cur.extract off (off+k)=cs)
 (h:Bo P l Q S n r (a.put o.dst (.agg cs)) w):Bo P l Q S n ((i,false)::r) a w :=
 plan_look ho hw (fun w0 hS=>by
  unfold execOp;simp only[hop,hx,Instr.loadAt,Instr.sureAddr,Sem.run_bind,Sem.run_pure,Result.andThen_ok,Bc w0 (hg w0 hS) hu hd hi hfit,hv]) h
theorem Rb:Tryz.prog.built 35 []=some (AK (List.replicate 32 0)):=by kernel_rfl
theorem X0 {l:List Pr} (h:∀x∈l,x.key.length=32) (hf:(l.map (·.key)).Nodup) (k:List UInt8):AS.Ok (l.map Pr.ent) k 0 :=
 ⟨by rw[Ke];exact hf,fun p hp=>by obtain⟨x,hx,rfl⟩:=List.mem_map.1 hp;exact h x hx,fun _ _ _ h=>absurd h (Nat.not_lt_zero _)⟩
theorem Mv {w:World} {ao':Option Addr} {cap':Nat} {l l':List Pr} (hf:Df l) (h1:l'.length=l.length) (h2:l.length≤cap'∨l = []) (h3:l'.Perm l) (h4:C8 (l'.map Pr.ent)) (h5:BA w ao' l') :
 Calls Tryz.prog 236 #[.slice ao' l.length cap',.int .i64 0] w fun e w'=>e=.returned (.agg (AK (tree 256 (l.map Pr.ent)).dig))∧Adds w w':=by
 rw[←IW 256 (h3.map Pr.ent)];rcases h2 with h2|h2
 · have hn:(l'.map (·.key)).Nodup:=(h3.map _).nodup_iff.2 hf.2.2
   have:=XZ 256 (Nat.le_refl _) cap' (k := []) h5 (by omega) (by rw[h1];exact hf.1) (X0 (fun x hx=>(h5.1 x hx).key) hn []) h4 (fun x hx=>hf.2.1 x (h3.mem_iff.1 hx));rw[h1] at this;exact this
 subst h2;have:l' = []:=List.eq_nil_of_length_eq_zero (by simpa using h1);subst this;exact J0 ao' cap' 0 w
theorem Tp {w:World} {ao:Option Addr} {l:List Pr} (cap:Nat) (h:BA w ao l) :
 Calls Tryz.prog 178 #[.slice ao l.length cap,.int .i64 0] w fun e w'=>Adds w w'∧∃hb c,e=.returned (.tuple #[.agg (AK hb),.int .i64 c])∧hb.length=32∧(c=0↔Df l)∧(Df l→hb=(tree 256 (l.map Pr.ent)).dig):=by
 obtain⟨Z,hZ⟩:∃Z,Z=AK (List.replicate 32 0):=⟨_,rfl⟩
 have hzh:=GC;have hzb:=Rb;rw[←hZ] at hzh hzb;have hZs:Z.size=32:=by rw[hZ];rfl
 have hz1:∀v∈Z.toList,v.oneCell'=true:=by rw[hZ];exact Ae _
 have HZ:=(hIq hzh (aIq hZs (aIq hzb (aIq hz1 hZ))))
 have hw1:Adds w (w.alloc (.cells Z 35)):=(Ch.refl _ _).alloc _;have hso:=S2 cap (h.Af hw1 (fun _=>fEq));obtain⟨len,hlen⟩:∃len,len=l.length:=⟨_,rfl⟩
 rw[←hlen] at hso ⊢;have HSO:=Lib.hid hso;have W1:=Lib.hid hw1;have HL:=Lib.hid hlen;clear hzh hZs hzb hz1 hZ h hso hw1 hlen;go_enter Tryz.func178,Tryz.ntmps178
 go_wp2_with (first
  | fail
  | ((with_reducible show zOq (.alloc 35));refine AI rfl 35 rfl (.agg Z) HZ.out.1 ?_;dsimp only[Value.cells];try simp only[World.size_alloc]))
 refine HSO.out.mono ?_;rintro e w2 ⟨a2,v,c,rfl,hcv,hc,hy⟩;have A2:=(hIq (W1.out.trans a2 (fun _=>fEq)) (a2.row (heap_alloc_new w (.cells Z 35)) id))
 clear a2 HSO;by_cases hc0:c=0
 · subst hc0
   obtain⟨ao',cap',l',rfl,s1,s2,s3,s4,s5⟩:=hy rfl;have hf:=hc.1 rfl;have hrt:=fun w3 (a:Adds w2 w3)=>Mv hf (by rw[s1,HL.out]) (by rw[←HL.out];exact s2) s3 s4 (s5.Af a (fun _=>fEq))
   obtain⟨O,hO⟩:∃O,O=AK (tree 256 (l.map Pr.ent)).dig:=⟨_,rfl⟩
   have hos:O.size=32:=by rw[hO,AN];exact Tr.B9 _
   have ho1:=Ae (tree 256 (l.map Pr.ent)).dig;rw[←hO] at ho1 hrt;rw[←HL.out] at hrt;have HO:=(hIq hO (aIq hos ho1))
   have HR:=Lib.hid hrt;have HF:=Lib.hid hf;have HS:=(hIq s1 s5)
   clear hcv hc hy hf hrt hO hos ho1 s1 s2 s3 s4 s5;go_wp2_with fail
   have fin:∀w3 w4:World,Adds w w3→w3.heap[w.heap.size]?=some (.cells Z 35 (0,0))→Adds w3 w4→Adds w (w4.setRow w.heap.size O)∧∃hb c,(Ending.returned (.tuple #[.agg O,.int .i64 0]):Ending)=.returned (.tuple #[.agg (AK hb),.int .i64 c])∧hb.length=32∧(c=0↔Df l)∧(Df l→hb=(tree 256 (l.map Pr.ent)).dig):=fun w3 w4 a3 z3 a4 =>
    ⟨(a3.trans a4 (fun _=>fEq)).setRow (.inr (Nat.le_refl _)) _,_,0,by rw[HO.out.1],Tr.B9 _,⟨fun _=>HF.out,fun _=>rfl⟩,fun _=>rfl⟩
   have FIN:=Lib.hid fin;clear fin;by_cases h1:1<len
   · have h1':(1:Int)<(len:Int):=by omega
     have hd1:decide ((1:Int)<(len:Int))=true:=decide_eq_true h1';obtain⟨j,hj⟩:∃j:Nat,j=len-1:=⟨_,rfl⟩
     have hw1:wrap64 ((len:Int)-1)=(j:Int):=by have:=HF.out.1;have:=HL.out;unfold wrap64;omega
     have hjl:j<len:=by omega
     have hjl':(j:Int)<(len:Int):=by omega
     have h0l:0<len:=by omega
     have h0l':(0:Int)<(len:Int):=by omega
     have hjs:j<l'.length:=by have:=HS.out.1;omega
     obtain⟨x,hx⟩:∃x,l'[0]?=some x:=⟨_,List.getElem?_eq_getElem (by omega)⟩
     obtain⟨y,hy⟩:∃y,l'[j]?=some y:=⟨_,List.getElem?_eq_getElem hjs⟩
     obtain⟨g0,off,rfl,hp⟩:=HS.out.2.2 0 x hx;obtain⟨g1,off1,e1,hq⟩:=HS.out.2.2 j y hy;injection e1 with e1;injection e1 with ea eb;subst ea eb;have gx:=HS.out.2.1 x (List.mem_of_getElem? hx);have gy:=HS.out.2.1 y (List.mem_of_getElem? hy);obtain⟨cur,ty,fr,c1,c2,c3⟩:=hp;obtain⟨cur',ty',fr',d1,d2,d3⟩:=hq;rw[c1] at d1;injection d1 with d1;injection d1 with da db dc;subst da db dc;rw[Pr.size gx.key,Nat.zero_mul,Nat.add_zero] at c2 c3;rw[Pr.size gy.key] at d2 d3;obtain⟨kx,_⟩:=FH gx.key c3;obtain⟨ky,_⟩:=FH gy.key d3;have hcm:=fun w3=>C0 x.key y.key gx.key gy.key w3
     obtain⟨KX,hKX⟩:∃K,K=AK x.key:=⟨_,rfl⟩
     obtain⟨KY,hKY⟩:∃K,K=AK y.key:=⟨_,rfl⟩
     rw[←hKX] at kx hcm;rw[←hKY] at ky hcm;obtain⟨cm,hcmv⟩:∃cm,cm=common x.key y.key:=⟨_,rfl⟩
     rw[←hcmv] at hcm;have hneg:decide ((cm:Int)<0)=false:=decide_eq_false (by omega);have HC:=(hIq c1 (aIq c2 (aIq d2 (aIq kx ky))))
     have HCM:=Lib.hid hcm;clear hj hjs hx hy HS gx gy c1 c2 c3 d2 d3 kx ky hKX hKY hcm hcmv;refine AO (fun w0=>w0.heap[g0]?=some (.cells cur ty fr)) 19 [(0,false),(1,false),(2,false),(3,false),(4,false),(5,false),(6,false),(7,false),(8,false),(9,false),(10,false),(11,false),(12,false),(13,false),(14,false),(16,false),(15,true),(17,false),(18,false)] (by kernel_rfl) (by kernel_rfl) ?_ ?_
     · exact HC.out.1
     iterate 2
      refine plan_look rfl rfl (fun w0 hS=>(by clear hS;go_simp;try rfl)) ?_;simp only[Act.put,nAq,nBq,nCq]
     iterate 2
      refine plan_look (v:=.bool true) rfl rfl (fun w0 hS=>(by clear hS;go_simp;try rfl)) ?_;simp only[Act.put,nAq,nBq,nCq]
     iterate 3
      refine plan_look rfl rfl (fun w0 hS=>(by clear hS;go_simp;try rfl)) ?_;simp only[Act.put,nAq,nBq,nCq]
     refine Aw (cur:=cur) (t:=ty) (fr:=fr) rfl rfl 47 _ rfl g0 off 32 rfl (fun w0 hS=>hS) Tryz.underlying47 rfl AY (by have:=HC.out.2.1;omega) KX HC.out.2.2.2.1 ?_;simp only[Act.put,nAq,nBq,nCq]
     iterate 3
      refine plan_look rfl rfl (fun w0 hS=>(by clear hS;go_simp;try rfl)) ?_;simp only[Act.put,nAq,nBq,nCq]
     refine plan_look (v:=.int .i64 (j:Int)) rfl rfl (fun w0 hS=>(by clear hS;go_simp;exact(IntWalk.i64_left _).trans hw1)) ?_;simp only[Act.put,nAq,nBq,nCq]
     iterate 2
      refine plan_look rfl rfl (fun w0 hS=>(by clear hS;go_simp;try rfl)) ?_;simp only[Act.put,nAq,nBq,nCq]
     refine Aw (cur:=cur) (t:=ty) (fr:=fr) rfl rfl 47 _ rfl g0 (off+j*33) 32 rfl (fun w0 hS=>hS) Tryz.underlying47 rfl AY (by have:=HC.out.2.2.1;omega) KY HC.out.2.2.2.2 ?_;simp only[Act.put,nAq,nBq,nCq];refine plan_look rfl rfl (fun w0 hS=>(by clear hS;go_simp;try rfl)) ?_;simp only[Act.put,nAq,nBq,nCq];refine AV rfl ?_;go_wp2_with fail;refine(HCM.out _).mono ?_;rintro e w3 ⟨rfl,a3⟩;have A3:=(hIq (A2.out.1.drew.trans a3 (fun _=>fEq)) (aIq (a3.row (AP A2.out.2) id) ((Ch.refl (fun _=>False) w2).drew.trans a3 (fun _=>fEq))))
     have S3:=Lib.hid (a3.row (AP HC.out.1) id);clear a3;dsimp only;go_step;refine wpList_nil ?_;change _∧_;refine⟨S3.out,?_⟩
     iterate 2
      refine plan_look (v:=.bool false) rfl rfl (fun w0 hS=>(by clear hS;go_simp;try rfl)) ?_;simp only[Act.put,nAq,nBq,nCq]
     refine AZ ?_;simp only[List.drop_succ_cons,List.drop_zero];go_wp2;refine NoPanic.normal ?_;go_wp2_with fail;refine(HR.out _ A3.out.2.2).mono ?_;rintro e w4 ⟨rfl,a4⟩;have A4:=(hIq a4 (a4.row A3.out.2.1 id))
     clear a4
     go_wp2_with (first
      | fail
      | ((with_reducible show zOq (.store 35 _ _));refine AE rfl 35 _ _ rfl w.heap.size 0 O rfl rfl A4.out.2 (by rw[Bl,HO.out.2.1]) (by rw[HO.out.2.1,HZ.out.2.1];omega) HO.out.2.2 O (by rw[AJ _ _ (by rw[Array.length_toList,Array.length_toList,HO.out.2.1,HZ.out.2.1])]) ?_))
     exact Ag (p:=4) (u:=5) rfl rfl (AF A4.out.2 _) Tryz.underlying35 rfl (by rw[Bl,HO.out.2.1]) rfl (FIN.out _ _ A3.out.1 A3.out.2.1 A4.out.1)
   have hd1:decide ((1:Int)<(len:Int))=false:=decide_eq_false (by omega);have hd1':decide (1<len)=false:=decide_eq_false h1;clear HS;refine AO (fun _=>True) 19 [(0,false),(1,false),(2,false),(3,false),(4,false),(5,false),(6,false),(7,false),(8,false),(9,false),(10,false),(11,false),(12,false),(13,false),(14,false),(16,false),(15,true),(17,false),(18,false)] (by kernel_rfl) (by kernel_rfl) ?_ ?_
   · trivial
   iterate 2
    refine plan_look rfl rfl (fun w0 hS=>(by clear hS;go_simp;try rfl)) ?_;simp only[Act.put,nAq,nBq,nCq]
   iterate 2
    refine plan_look (v:=.bool false) rfl rfl (fun w0 hS=>(by clear hS;go_simp;try rfl)) ?_;simp only[Act.put,nAq,nBq,nCq]
   iterate 12
    refine CL rfl rfl ?_;simp only[Act.put,nAq,nBq,nCq]
   refine AV rfl ?_;go_wp2;refine⟨trivial,?_⟩;refine CL rfl rfl ?_;simp only[Act.put,nAq,nBq,nCq];refine plan_look (v:=.bool false) rfl rfl (fun w0 hS=>(by clear hS;go_simp;try rfl)) ?_;simp only[Act.put,nAq,nBq,nCq];refine AZ ?_;simp only[List.drop_succ_cons,List.drop_zero];go_wp2;refine NoPanic.normal ?_;go_wp2_with fail;refine(HR.out _ (Ch.refl _ _).drew).mono ?_;rintro e w4 ⟨rfl,a4⟩;have A4:=(hIq a4 (a4.row (AP A2.out.2) id))
   clear a4
   go_wp2_with (first
    | fail
    | ((with_reducible show zOq (.store 35 _ _));refine AE rfl 35 _ _ rfl w.heap.size 0 O rfl rfl A4.out.2 (by rw[Bl,HO.out.2.1]) (by rw[HO.out.2.1,HZ.out.2.1];omega) HO.out.2.2 O (by rw[AJ _ _ (by rw[Array.length_toList,Array.length_toList,HO.out.2.1,HZ.out.2.1])]) ?_))
   exact Ag (p:=4) (u:=5) rfl rfl (AF A4.out.2 _) Tryz.underlying35 rfl (by rw[Bl,HO.out.2.1]) rfl (FIN.out _ _ A2.out.1.drew (AP A2.out.2) A4.out.1)
 have hv:v=.slice none 0 0:=by
  rcases hcv with h|h
  · exact absurd h hc0
  exact h.2
 subst hv;have hcn:(c != 0)=true:=by simpa using hc0
 have hcn':(c == 0)=false:=by simpa using hc0
 have hcd:decide (c=0)=false:=decide_eq_false hc0;have HF:=(hIq hc0 (show ¬Df l from fun hf=>hc0 (hc.2 hf)))
 clear hc0 hcv hc hy
 go_wp2_with (first
  | fail
  | ((with_reducible show zOq (.build 35 #[]));refine Cb rfl 35 rfl Z HZ.out.2.2.1 ?_)
  | ((with_reducible show zOq (.store 35 _ _));refine AE rfl 35 _ _ rfl w.heap.size 0 Z rfl rfl A2.out.2 (by rw[Bl,HZ.out.2.1]) (by rw[HZ.out.2.1];omega) HZ.out.2.2.2.1 Z (by rw[AJ _ _ rfl]) ?_))
 exact Ag (p:=4) (u:=5) rfl rfl (AF A2.out.2 _) Tryz.underlying35 rfl (by rw[Bl,HZ.out.2.1]) rfl ⟨A2.out.1.setRow (.inr (Nat.le_refl _)) _,List.replicate 32 0,c,by rw[HZ.out.2.2.2.2];rfl,rfl,⟨fun h=>absurd h HF.out.1,fun h=>absurd h HF.out.2⟩,fun h=>absurd h HF.out.2⟩
theorem Eb {w:World} {ao:Option Addr} {l:List Pr} (cap:Nat) (h:BA w ao l) :
 Calls Tryz.prog 93 #[.slice ao l.length cap] w fun e w'=>Adds w w'∧∃hb c,e=.returned (.tuple #[.agg (AK hb),.int .i64 c])∧hb.length=32∧(c=0↔Df l)∧(Df l→hb=(tree 256 (l.map Pr.ent)).dig):=by
 obtain⟨Z,hZ⟩:∃Z,Z=AK (List.replicate 32 0):=⟨_,rfl⟩
 have hzh:=GC;rw[←hZ] at hzh;have hZs:Z.size=32:=by rw[hZ];rfl
 have HZ:=(hIq hzh hZs)
 have hw1:Adds w (w.alloc (.cells Z 35)):=(Ch.refl _ _).alloc _;have hso:=Tp cap (h.Af hw1 (fun _=>fEq));obtain⟨len,hlen⟩:∃len,len=l.length:=⟨_,rfl⟩
 rw[←hlen] at hso ⊢;have HSO:=Lib.hid hso;have W1:=Lib.hid hw1;clear hzh hZs hZ h hso hw1 hlen;go_enter Tryz.func93,Tryz.ntmps93
 go_wp2_with (first
  | fail
  | ((with_reducible show zOq (.alloc 35));refine AI rfl 35 rfl (.agg Z) HZ.out.1 ?_;dsimp only[Value.cells];try simp only[World.size_alloc]))
 refine HSO.out.mono ?_;rintro e w2 ⟨a2,hb,c,rfl,hl,hc,hd⟩;obtain⟨O,hO⟩:∃O,O=AK hb:=⟨_,rfl⟩
 have hos:O.size=32:=by rw[hO,AN];exact hl
 have ho1:=Ae hb;rw[←hO] at ho1 ⊢;have HO:=(hIq hO (aIq hos ho1))
 have HH:=(hIq hl (aIq hc hd))
 have A2:=(hIq (W1.out.trans a2 (fun _=>fEq)) (a2.row (heap_alloc_new w (.cells Z 35)) id))
 clear hl hc hd hO hos ho1 a2
 go_wp2_with (first
  | fail
  | ((with_reducible show zOq (.store 35 _ _));refine AE rfl 35 _ _ rfl w.heap.size 0 O rfl rfl A2.out.2 (by rw[Bl,HO.out.2.1]) (by rw[HO.out.2.1,HZ.out.2];omega) HO.out.2.2 O (by rw[AJ _ _ (by rw[Array.length_toList,Array.length_toList,HO.out.2.1,HZ.out.2])]) ?_))
 exact Ag (p:=2) (u:=3) rfl rfl (AF A2.out.2 _) Tryz.underlying35 rfl (by rw[Bl,HO.out.2.1]) rfl ⟨A2.out.1.setRow (.inr (Nat.le_refl _)) _,hb,c,by rw[HO.out.1];rfl,HH.out.1,HH.out.2.1,HH.out.2.2⟩
end Go.Proofs.YtngbdbpofifimaaGreat.Law9

/- Laws of the layers below. -/
import Derived.Test.YtngbdbpofifimaaGreatQm7
set_option maxHeartbeats 3200000
set_option maxRecDepth 100000
set_option linter.unusedVariables false
namespace Go.Proofs.YtngbdbpofifimaaGreat.Store
open Go.RowKit Go.Proofs.YtngbdbpofifimaaGreat.ShaW Go.Proofs.YtngbdbpofifimaaGreat.Path
theorem Mz:∃i,Tryz.prog.info? 5=some i∧i.zero=some (.int .u8 0)∧i.size=1∧i.bytes=1:=by
 obtain⟨i,h1,h2,h3,h4⟩:=info_parts (P:=Tryz.prog) (e:=5) (z:=.int .u8 0) (size:=1) (bytes:=1) (by kernel_rfl);exact⟨i,h1,h2,h3,h4⟩
theorem Hu {w:World} {s:Nat} {F:Nat→Prop} {σ:AG Nd} (h:At w s F σ) (n:Int) :
 Calls Tryz.prog 163 #[.pointer (some ⟨s,0,none⟩),.int .i64 n] w fun e w'=>∃v,e=.returned v∧Bytes w' v (nd σ n).value∧(∀k,v.ownBlock=some k→w.heap.size≤k∧k<w'.heap.size)∧AN w w':=by
 have hok:=h.ok n;have hg:=Cu h n;have hbb:=h.bytes n;obtain⟨N,Z,hN,hn,hz⟩:=told h n;rw[←hN] at hg;have k0:N[66]?=some (nd σ n).addr:=by rw[hN];exact Nd.PV hok
 have hvl:=hok.val;obtain⟨i0,hi,hz0,hz1,hz2⟩:=Mz;obtain⟨ao,len,cap,hA⟩:=hok.addr;rw[hA] at k0 hbb;generalize (nd σ n).value=bs at hbb hvl;have HG:=Lib.hid hg;have HN:=Lib.hid hn;have HZ:=Lib.hid hz;have HB:=Lib.hid hbb;have HI:=(hIq hi (aIq hz0 (aIq hz1 hz2)))
 have HV:=Lib.hid hvl;clear hok hg hN hn hz h hbb hi hz0 hz1 hz2 hA hvl;go_enter Tryz.func163,Tryz.ntmps163;go_wp2_with fail;refine HG.out.mono ?_;rintro e w1 ⟨rfl,hc1⟩;have c0:=AH (AK (heap_alloc_new w1 (.cells Z 168)) N) k0;have C1:=Lib.hid hc1;clear hc1 k0
 go_wp2_with (first
  | ((with_reducible show zOq (.alloc 168));refine AO rfl 168 rfl (.agg Z) HZ.out.1 ?_;dsimp only[Value.cells];try simp only[World.size_alloc])
  | ((with_reducible show zOq (.store 168 (.tmp 5) _));go_must (refine AI rfl 168 _ _ rfl w1.heap.size 0 N rfl rfl (heap_alloc_new _ _) (by rw[BW,HN.out.1]) (by rw[HN.out.1,HZ.out.2];omega) HN.out.2 N (by rw[AT _ _ (by rw[Array.length_toList,Array.length_toList,HN.out.1,HZ.out.2])]) ?_))
  | (at_builtin;refine DK rfl _ _ 29 rfl 5 i0 Tryz.underlying29 HI.out.1 HI.out.2.1 HI.out.2.2.1 HI.out.2.2.2 rfl _ rfl bs (HB.out.Ae ((C1.out.alloc _).setRow (.inr C1.out.size) _) (fun _ _ h=>h)) (by have:=HV.out;omega) ?_;intro v' w2 hb2 hk2 hc2;have HB2:=(hIq hb2 (aIq hk2 hc2));clear hb2 hk2 hc2))
 go_ret;refine⟨_,rfl,HB2.out.1,fun k hk=>⟨?_,(HB2.out.2.1 k hk).2⟩,((C1.out.alloc _).setRow (.inr C1.out.size) _).trans HB2.out.2.2 (fun _=>fEq)⟩;have:=(HB2.out.2.1 k hk).1;have:=C1.out.size;simp at *;omega
def BC (n:Nd) (x:Int):Nd := { n with held:=x }
def bump (σ:AG Nd) (h b:Int):AG Nd:=if has σ h then (σ.set h (BC (nd σ h) (wrap64 ((nd σ h).held+b)))).2 else σ
theorem Ng {n:Nd} (h:n.Ok) (x:Int):(BC n x).Ok:=⟨h.digest,h.key,h.hash,h.addr,h.val⟩
theorem QV {σ:AG Nd} {h:Int} {x:Nd×Nat} (hx:σ.get? h=some x) (y:Nd):∃m:Nat,h=m+1∧σ.slots[m]?=some x∧(σ.set h y).2.slots=σ.slots.set m (y,x.2):=by
 obtain⟨m,hm,hs,h0,hl⟩:=AG.Ac hx;refine⟨m,hm,hs,?_⟩;unfold AG.set;rw[hx];simp only[AG.setAt];rw[hm,show((m:Int)+1-1).toNat=m by omega]
theorem Ff {w:World} {s:Nat} {F:Nat→Prop} {σ:AG Nd} (h:At w s F σ) (n b:Int) :
 Calls Tryz.prog 90 #[.pointer (some ⟨s,0,none⟩),.int .i64 n,.int .i64 b] w fun e w'=>(∃v,e=.returned v)∧BF w w' s F (bump σ n b):=by
 have hok:=h.ok n;have hg:=Cu h n;obtain⟨N,Z,hN,hn,hz⟩:=told h n;rw[←hN] at hg;cases hb:has σ n with
 | false =>
  rw[hb] at hg;have hbm:bump σ n b=σ:=by unfold bump;rw[if_neg (by rw[hb];simp)]
  have HM:=(hIq hbm h)
  have HG:=Lib.hid hg;have HN:=Lib.hid hn;have HZ:=Lib.hid hz;clear hok hg hN hn hz h hbm hb;go_enter Tryz.func90,Tryz.ntmps90;go_wp2_with fail;refine HG.out.mono ?_;rintro e w1 ⟨rfl,hc1⟩;have C1:=Lib.hid hc1;clear hc1
  go_wp2_with (first
   | ((with_reducible show zOq (.alloc 168));refine AO rfl 168 rfl (.agg Z) HZ.out.1 ?_;dsimp only[Value.cells];try simp only[World.size_alloc])
   | ((with_reducible show zOq (.store 168 (.tmp 6) _));go_must (refine AI rfl 168 _ _ rfl w1.heap.size 0 N rfl rfl (heap_alloc_new _ _) (by rw[BW,HN.out.1]) (by rw[HN.out.1,HZ.out.2];omega) HN.out.2 N (by rw[AT _ _ (by rw[Array.length_toList,Array.length_toList,HN.out.1,HZ.out.2])]) ?_)))
  go_end0;exact⟨⟨_,rfl⟩,by rw[HM.out.1];exact BF.same HM.out.2 ((C1.out.alloc _).setRow (.inr C1.out.size) _)⟩
 | true =>
  rw[hb] at hg;obtain⟨x,hx⟩:∃x,σ.get? n=some x:=Option.isSome_iff_exists.1 hb;have hbm:bump σ n b=(σ.set n (BC (nd σ n) (wrap64 ((nd σ n).held+b)))).2:=by unfold bump;rw[if_pos hb]
  have k0:N[102]?=some (.int .i64 (nd σ n).held):=by rw[hN];exact Nd.GY hok
  have kset:∀y,N.setIfInBounds 102 (.int .i64 y)=(BC (nd σ n) y).cells:=fun y=>by rw[hN];exact Nd.Sg hok y
  have HM:=(hIq hbm (aIq h (aIq hx hok)))
  have HG:=Lib.hid hg;have HN:=Lib.hid hn;have HZ:=Lib.hid hz;have HK:=Lib.hid kset;clear hok hg hN hn hz h hbm hb hx kset;generalize (nd σ n).held=hd at k0 HM;go_enter Tryz.func90,Tryz.ntmps90;go_wp2_with fail;refine HG.out.mono ?_;rintro e w1 ⟨rfl,hc1⟩;have c0:=AH (AK (heap_alloc_new w1 (.cells Z 168)) N) k0;have f0:=Ai (AK (heap_alloc_new w1 (.cells Z 168)) N) 102;have C1:=Lib.hid hc1;clear hc1 k0
  go_wp2_with (first
   | ((with_reducible show zOq (.alloc 168));refine AO rfl 168 rfl (.agg Z) HZ.out.1 ?_;dsimp only[Value.cells];try simp only[World.size_alloc])
   | ((with_reducible show zOq (.store 168 (.tmp 6) _));go_must (refine AI rfl 168 _ _ rfl w1.heap.size 0 N rfl rfl (heap_alloc_new _ _) (by rw[BW,HN.out.1]) (by rw[HN.out.1,HZ.out.2];omega) HN.out.2 N (by rw[AT _ _ (by rw[Array.length_toList,Array.length_toList,HN.out.1,HZ.out.2])]) ?_)))
  have hcw:AN w (((w1.alloc (.cells Z 168)).setRow w1.heap.size N).setCell ⟨w1.heap.size,102,none⟩ (.int .i64 (wrap64 (hd+b)))):=((C1.out.alloc _).setRow (.inr C1.out.size) _).setCell (p:=⟨w1.heap.size,102,none⟩) (.inr C1.out.size) _;have hrw:=AV (AK (heap_alloc_new w1 (.cells Z 168)) N) 102 (.int .i64 (wrap64 (hd+b)));rw[HK.out] at hrw;obtain⟨W,hW⟩:∃W,W=((w1.alloc (.cells Z 168)).setRow w1.heap.size N).setCell ⟨w1.heap.size,102,none⟩ (.int .i64 (wrap64 (hd+b))):=⟨_,rfl⟩
  rw[←hW] at hcw hrw ⊢;have hAt:=HM.out.2.1.adds hcw.drew;obtain⟨a,G,h1,h2,h3,h4,h5,h6⟩:=hAt;have hn':=Ng HM.out.2.2.2 (wrap64 (hd+b));have hset:=SlabN.Vv h2 n (BC (nd σ n) (wrap64 (hd+b))).enc (Nd.OR hn');rw[AG.map_set] at hset;obtain⟨N2,hN2⟩:∃N2,N2=(BC (nd σ n) (wrap64 (hd+b))).cells:=⟨_,rfl⟩
  have hN2s:N2.size=103:=by rw[hN2];exact Nd.AY hn'
  rw[show(BC (nd σ n) (wrap64 (hd+b))).enc=.agg N2 by rw[hN2];rfl] at hset;rw[←hN2] at hrw;have d0:=AH h1 (i:=0) rfl
  have hfin:∀w',SlabN.BF W.drew w' a G ((σ.set n (BC (nd σ n) (wrap64 (hd+b)))).2.map Nd.enc)→BF w w' s F (bump σ n b):=fun w' hm=>by
   rw[HM.out.1];refine BF.from hcw.drew (lift h1 h4 h5 h6 hm fun m y c hs=>?_) (fun k hk=>.inl hk);obtain⟨m',_,hx',hsl⟩:=QV HM.out.2.2.1 (BC (nd σ n) (wrap64 (hd+b)));rw[hsl] at hs;by_cases hmm:m'=m
   · subst hmm
     rw[List.getElem?_set_self (List.getElem?_eq_some_iff.1 hx').1] at hs;cases hs;have hnd:nd σ n=x.1:=by unfold nd;rw[HM.out.2.2.1];rfl
     obtain⟨p1,p2,p3⟩:=h3 m' x.1 x.2 hx';exact⟨hn',by rw[hnd];exact p2,by rw[hnd];exact p3⟩
   rw[List.getElem?_set_ne hmm] at hs;exact h3 m y c hs
  have HF:=Lib.hid hfin;have HS:=Lib.hid hset;have HR:=Lib.hid hrw;have H2:=(hIq hN2s hW)
  clear hfin hset hrw hN2s hN2 hn' h1 h2 h3 h4 h5 h6 hcw hW c0 f0;refine AP (fun w0=>w0=W.drew) 6 [(0,false),(1,false),(2,false),(3,false),(4,false),(5,false)] (by kernel_rfl) (by kernel_rfl) ?_ ?_
  · rfl
  iterate 5 refine plan_look rfl rfl (fun w0 hS=>(by subst hS;go_simp;try rfl)) ?_
  simp only[Act.put,nAq,nBq,nCq];refine Aa (cur:=N2) (t:=168) (fr:=(0,0)) rfl rfl 168 (.tmp 6) rfl w1.heap.size 0 103 rfl (fun w0 hS=>by subst hS;exact HR.out) Tryz.underlying168 rfl BW (by rw[H2.out.1];omega) N2 (by simp[←H2.out.1]) ?_;refine AZ ?_;simp only[List.drop_succ_cons,List.drop_zero];simp only[Act.put,nAq,nBq,nCq];go_wp2_with fail;refine HS.out.mono ?_;rintro e w2 ⟨rfl,hm2⟩;have HM2:=Lib.hid hm2;clear hm2;go_wp2;refine NoPanic.normal ?_;go_end0;exact⟨⟨_,rfl⟩,HF.out _ HM2.out⟩
end Go.Proofs.YtngbdbpofifimaaGreat.Store
namespace Go.Proofs.YtngbdbpofifimaaGreat.Nd
open Go.RowKit
theorem CT (A B C V:List Value) (k:Nat) (hk:A.length=k) (hB:B.length=V.length):splice (A++(B++C)) k V=A++(V++C):=by
 subst hk;unfold splice;rw[List.take_append_of_le_length (Nat.le_refl _),List.take_of_length_le (Nat.le_refl _),List.drop_append,List.drop_eq_nil_of_le (by omega),List.nil_append,show A.length+V.length-A.length=V.length by omega,List.drop_append,List.drop_eq_nil_of_le (by omega),List.nil_append,hB,Nat.sub_self,List.drop_zero,List.append_assoc]
variable {n : Nd} (h : n.Ok)
include h
theorem Kh (D:List UInt8) (hD:D.length=32):splice n.cells.toList 0 (AS D).toList=({ n with digest:=D }:Nd).cells.toList:=by
 rw[Aj,Aj];exact CT [] _ _ (D.map bv) 0 rfl (by simp[h.digest,hD])
theorem ND (k:Nat):splice n.cells.toList 32 [.int .u8 (k:Nat)]=({ n with kind:=k }:Nd).cells.toList:=by
 rw[Aj,Aj];exact CT (n.digest.map bv) [_] _ [_] 32 (by simp[h.digest]) rfl
theorem LI (d:Int):splice n.cells.toList 33 [.int .i64 d]=({ n with depth:=d }:Nd).cells.toList:=by
 rw[Aj,Aj];have:=CT (n.digest.map bv ++ [.int .u8 (n.kind:Nat)]) [.int .i64 n.depth] (n.key.map bv++(n.addr::(n.hash.map bv ++ [.int .i64 n.left,.int .i64 n.right,.int .i64 n.size,.int .i64 n.held]))) [.int .i64 d] 33 (by simp[h.digest]) rfl;simpa using this
theorem PX (K:List UInt8) (hK:K.length=32):splice n.cells.toList 34 (AS K).toList=({ n with key:=K }:Nd).cells.toList:=by
 rw[Aj,Aj];have:=CT (n.digest.map bv ++ [.int .u8 (n.kind:Nat),.int .i64 n.depth]) (n.key.map bv) (n.addr::(n.hash.map bv ++ [.int .i64 n.left,.int .i64 n.right,.int .i64 n.size,.int .i64 n.held])) (K.map bv) 34 (by simp[h.digest]) (by simp[h.key,hK]);simpa[AS] using this
theorem Tq (v:Value) (b:List UInt8):splice n.cells.toList 66 [v]=({ n with addr:=v,value:=b }:Nd).cells.toList:=by
 rw[Aj,Aj];have:=CT (n.digest.map bv++(.int .u8 (n.kind:Nat)::.int .i64 n.depth::n.key.map bv)) [n.addr] (n.hash.map bv ++ [.int .i64 n.left,.int .i64 n.right,.int .i64 n.size,.int .i64 n.held]) [v] 66 (by simp[h.digest,h.key]) rfl;simpa using this
theorem Tm (H:List UInt8) (hH:H.length=32):splice n.cells.toList 67 (AS H).toList=({ n with hash:=H }:Nd).cells.toList:=by
 rw[Aj,Aj];have:=CT (n.digest.map bv++(.int .u8 (n.kind:Nat)::.int .i64 n.depth::(n.key.map bv ++ [n.addr]))) (n.hash.map bv) [.int .i64 n.left,.int .i64 n.right,.int .i64 n.size,.int .i64 n.held] (H.map bv) 67 (by simp[h.digest,h.key]) (by simp[h.hash,hH]);simpa[AS] using this
theorem Sh (x:Int):splice n.cells.toList 99 [.int .i64 x]=({ n with left:=x }:Nd).cells.toList:=by
 rw[Aj,Aj];have:=CT (n.digest.map bv++(.int .u8 (n.kind:Nat)::.int .i64 n.depth::(n.key.map bv++(n.addr::n.hash.map bv)))) [.int .i64 n.left] [.int .i64 n.right,.int .i64 n.size,.int .i64 n.held] [.int .i64 x] 99 (by simp[h.digest,h.key,h.hash]) rfl;simpa using this
theorem Qh (x:Int):splice n.cells.toList 100 [.int .i64 x]=({ n with right:=x }:Nd).cells.toList:=by
 rw[Aj,Aj];have:=CT (n.digest.map bv++(.int .u8 (n.kind:Nat)::.int .i64 n.depth::(n.key.map bv++(n.addr::(n.hash.map bv ++ [.int .i64 n.left]))))) [.int .i64 n.right] [.int .i64 n.size,.int .i64 n.held] [.int .i64 x] 100 (by simp[h.digest,h.key,h.hash]) rfl;simpa using this
theorem Nr (x:Int):splice n.cells.toList 101 [.int .i64 x]=({ n with size:=x }:Nd).cells.toList:=by
 rw[Aj,Aj];have:=CT (n.digest.map bv++(.int .u8 (n.kind:Nat)::.int .i64 n.depth::(n.key.map bv++(n.addr::(n.hash.map bv ++ [.int .i64 n.left,.int .i64 n.right]))))) [.int .i64 n.size] [.int .i64 n.held] [.int .i64 x] 101 (by simp[h.digest,h.key,h.hash]) rfl;simpa using this
theorem NI (x:Int):splice n.cells.toList 102 [.int .i64 x]=({ n with held:=x }:Nd).cells.toList:=by
 rw[Aj,Aj];have:=CT (n.digest.map bv++(.int .u8 (n.kind:Nat)::.int .i64 n.depth::(n.key.map bv++(n.addr::(n.hash.map bv ++ [.int .i64 n.left,.int .i64 n.right,.int .i64 n.size]))))) [.int .i64 n.held] [] [.int .i64 x] 102 (by simp[h.digest,h.key,h.hash]) rfl;simpa using this
omit h
theorem LK:∃i fs,Tryz.prog.info? 168=some i∧i.zero=some (.agg zero.cells)∧Tryz.prog.underlying 168=some (.struct fs) ∧
 fs.toList.mapM (fun f=>(Tryz.prog.info? f.type).map fun i=>(f.offset,i.size))=some [(0,32),(32,1),(33,1),(34,32),(66,1),(67,32),(99,1),(100,1),(101,1),(102,1)]:=by
 obtain⟨i,hi⟩:∃i,Tryz.prog.info? 168=some i:=Option.isSome_iff_exists.1 (by kernel_rfl);have hz:(Tryz.prog.info? 168).bind (·.zero)=some (.agg zero.cells):=by kernel_rfl
 rw[hi] at hz;exact⟨i,_,hi,hz,Tryz.underlying168,by kernel_rfl⟩
theorem GM (D:List UInt8) (hD:D.length=32):Tryz.prog.built 166 [(0,.agg (AS D))]=some (AS D):=by
 obtain⟨i,hi⟩:∃i,Tryz.prog.info? 166=some i:=Option.isSome_iff_exists.1 (by kernel_rfl);have hz:(Tryz.prog.info? 166).bind (·.zero)=some (.agg (AS z32)):=by kernel_rfl
 rw[hi] at hz;have hz':i.zero=some (.agg (AS z32)):=hz;have hu:=Tryz.underlying166;have hp:([⟨(0:Nat),(32:Nat)⟩]:List (Nat×Nat)) = [(0,32)]:=rfl;unfold Program.built;rw[hi,hu];simp only[hz'];have hm:(List.mapM (fun(f:Field)=>(Tryz.prog.info? f.type).map fun i=>(f.offset,i.size)) (Option.getD ((Tryz.prog.underlying 166).map (fun d=>match d with | .struct fs=>fs.toList|_ => [])) []))=some [(0,32)]:=by kernel_rfl
 rw[hu] at hm;simp only[Option.map_some,Option.getD_some] at hm;rw[hm]
 show Instr.fill _ (AS z32) _=_
 rw[BH (off:=0) (size:=32) rfl (by simp[Value.cells,AU,hD]) (by simp[AU,z32])]
 show some _=_
 rw[AT _ _ (by simp[Value.cells,AS,z32,hD])];rfl
def leaf (D K H b:List UInt8) (v:Value):Nd:=⟨D,1, -1,K,v,b,H,0,0,1,1⟩
theorem UT {D K H b:List UInt8} {v:Value} (hD:D.length=32) (hK:K.length=32) (hH:H.length=32) (hb:b.length≤1024) (hv:∃ao len cap,v=.slice ao len cap):(leaf D K H b v).Ok:=⟨hD,hK,hH,hv,hb⟩
def inner (D K:List UInt8) (d l r s:Int):Nd:=⟨D,2,d,K,.slice none 0 0,[],z32,l,r,s,1⟩
theorem TO {D K:List UInt8} {d l r s:Int} (hD:D.length=32) (hK:K.length=32):(inner D K d l r s).Ok:=⟨hD,hK,rfl,⟨none,0,0,rfl⟩,Nat.zero_le _⟩
theorem Om (D K H b:List UInt8) (v:Value) (hD:D.length=32) (hK:K.length=32) (hH:H.length=32) (hb:b.length≤1024) (hv:∃ao len cap,v=.slice ao len cap) :
 Tryz.prog.built 168 [(0,.agg (AS D)),(1,.int .u8 1),(2,.int .i64 (-1)),(3,.agg (AS K)),(4,v),(5,.agg (AS H)),(8,.int .i64 1),(9,.int .i64 1)]=some (leaf D K H b v).cells:=by
 obtain⟨i,fs,h1,h2,h3,h4⟩:=LK;obtain⟨ao,len,cap,rfl⟩:=hv;unfold Program.built;rw[h1,h3];simp only[h2,h4];have o0:=BP;have o1:({ zero with digest:=D }:Nd).Ok:=⟨hD,rfl,rfl,⟨_,_,_,rfl⟩,Nat.zero_le _⟩
 have o2:({ zero with digest:=D,kind:=1 }:Nd).Ok:=⟨hD,rfl,rfl,⟨_,_,_,rfl⟩,Nat.zero_le _⟩
 have o3:({ zero with digest:=D,kind:=1,depth := -1 }:Nd).Ok:=⟨hD,rfl,rfl,⟨_,_,_,rfl⟩,Nat.zero_le _⟩
 have o4:({ zero with digest:=D,kind:=1,depth := -1,key:=K }:Nd).Ok:=⟨hD,hK,rfl,⟨_,_,_,rfl⟩,Nat.zero_le _⟩
 have o5:({ zero with digest:=D,kind:=1,depth := -1,key:=K,addr:=.slice ao len cap,value:=b }:Nd).Ok:=⟨hD,hK,rfl,⟨_,_,_,rfl⟩,hb⟩
 have o6:({ zero with digest:=D,kind:=1,depth := -1,key:=K,addr:=.slice ao len cap,value:=b,hash:=H }:Nd).Ok:=⟨hD,hK,hH,⟨_,_,_,rfl⟩,hb⟩
 have o7:({ zero with digest:=D,kind:=1,depth := -1,key:=K,addr:=.slice ao len cap,value:=b,hash:=H,size:=1 }:Nd).Ok:=⟨hD,hK,hH,⟨_,_,_,rfl⟩,hb⟩
 show Instr.fill _ zero.cells _=_
 rw[BH (off:=0) (size:=32) rfl (by simp[Value.cells,AU,hD]) (by rw[AY o0];omega)];rw[show(splice zero.cells.toList 0 (Value.agg (AS D)).cells.toList).toArray=({ zero with digest:=D }:Nd).cells by rw[show(Value.agg (AS D)).cells=AS D from rfl,Kh o0 D hD]];rw[BH (off:=32) (size:=1) rfl rfl (by rw[AY o1];omega)];rw[show(splice ({ zero with digest:=D }:Nd).cells.toList 32 (Value.int .u8 1).cells.toList).toArray=({ zero with digest:=D,kind:=1 }:Nd).cells by have:=ND o1 1;exact congrArg List.toArray this];rw[BH (off:=33) (size:=1) rfl rfl (by rw[AY o2];omega)];rw[show(splice ({ zero with digest:=D,kind:=1 }:Nd).cells.toList 33 (Value.int .i64 (-1)).cells.toList).toArray=({ zero with digest:=D,kind:=1,depth := -1 }:Nd).cells by have:=LI o2 (-1);exact congrArg List.toArray this];rw[BH (off:=34) (size:=32) rfl (by simp[Value.cells,AU,hK]) (by rw[AY o3];omega)];rw[show(splice ({ zero with digest:=D,kind:=1,depth := -1 }:Nd).cells.toList 34 (Value.agg (AS K)).cells.toList).toArray=({ zero with digest:=D,kind:=1,depth := -1,key:=K }:Nd).cells by have:=PX o3 K hK;exact congrArg List.toArray this];rw[BH (off:=66) (size:=1) rfl rfl (by rw[AY o4];omega)];rw[show(splice ({ zero with digest:=D,kind:=1,depth := -1,key:=K }:Nd).cells.toList 66 (Value.slice ao len cap).cells.toList).toArray=({ zero with digest:=D,kind:=1,depth := -1,key:=K,addr:=.slice ao len cap,value:=b }:Nd).cells by have:=Tq o4 (.slice ao len cap) b;exact congrArg List.toArray this];rw[BH (off:=67) (size:=32) rfl (by simp[Value.cells,AU,hH]) (by rw[AY o5];omega)];rw[show(splice ({ zero with digest:=D,kind:=1,depth := -1,key:=K,addr:=.slice ao len cap,value:=b }:Nd).cells.toList 67 (Value.agg (AS H)).cells.toList).toArray=({ zero with digest:=D,kind:=1,depth := -1,key:=K,addr:=.slice ao len cap,value:=b,hash:=H }:Nd).cells by have:=Tm o5 H hH;exact congrArg List.toArray this];rw[BH (off:=101) (size:=1) rfl rfl (by rw[AY o6];omega)];rw[show(splice ({ zero with digest:=D,kind:=1,depth := -1,key:=K,addr:=.slice ao len cap,value:=b,hash:=H }:Nd).cells.toList 101 (Value.int .i64 1).cells.toList).toArray=({ zero with digest:=D,kind:=1,depth := -1,key:=K,addr:=.slice ao len cap,value:=b,hash:=H,size:=1 }:Nd).cells by have:=Nr o6 1;exact congrArg List.toArray this];rw[BH (off:=102) (size:=1) rfl rfl (by rw[AY o7];omega)];rw[show(splice ({ zero with digest:=D,kind:=1,depth := -1,key:=K,addr:=.slice ao len cap,value:=b,hash:=H,size:=1 }:Nd).cells.toList 102 (Value.int .i64 1).cells.toList).toArray=(leaf D K H b (.slice ao len cap)).cells by have:=NI o7 1;exact congrArg List.toArray this];rfl
theorem NK (D K:List UInt8) (d l r s:Int) (hD:D.length=32) (hK:K.length=32) :
 Tryz.prog.built 168 [(0,.agg (AS D)),(1,.int .u8 2),(2,.int .i64 d),(3,.agg (AS K)),(6,.int .i64 l),(7,.int .i64 r),(8,.int .i64 s),(9,.int .i64 1)]=some (inner D K d l r s).cells:=by
 obtain⟨i,fs,h1,h2,h3,h4⟩:=LK;unfold Program.built;rw[h1,h3];simp only[h2,h4];have o0:=BP;have o1:({ zero with digest:=D }:Nd).Ok:=⟨hD,rfl,rfl,⟨_,_,_,rfl⟩,Nat.zero_le _⟩
 have o2:({ zero with digest:=D,kind:=2 }:Nd).Ok:=⟨hD,rfl,rfl,⟨_,_,_,rfl⟩,Nat.zero_le _⟩
 have o3:({ zero with digest:=D,kind:=2,depth:=d }:Nd).Ok:=⟨hD,rfl,rfl,⟨_,_,_,rfl⟩,Nat.zero_le _⟩
 have o4:({ zero with digest:=D,kind:=2,depth:=d,key:=K }:Nd).Ok:=⟨hD,hK,rfl,⟨_,_,_,rfl⟩,Nat.zero_le _⟩
 have o5:({ zero with digest:=D,kind:=2,depth:=d,key:=K,left:=l }:Nd).Ok:=⟨hD,hK,rfl,⟨_,_,_,rfl⟩,Nat.zero_le _⟩
 have o6:({ zero with digest:=D,kind:=2,depth:=d,key:=K,left:=l,right:=r }:Nd).Ok:=⟨hD,hK,rfl,⟨_,_,_,rfl⟩,Nat.zero_le _⟩
 have o7:({ zero with digest:=D,kind:=2,depth:=d,key:=K,left:=l,right:=r,size:=s }:Nd).Ok:=⟨hD,hK,rfl,⟨_,_,_,rfl⟩,Nat.zero_le _⟩
 show Instr.fill _ zero.cells _=_
 rw[BH (off:=0) (size:=32) rfl (by simp[Value.cells,AU,hD]) (by rw[AY o0];omega)];rw[show(splice zero.cells.toList 0 (Value.agg (AS D)).cells.toList).toArray=({ zero with digest:=D }:Nd).cells by rw[show(Value.agg (AS D)).cells=AS D from rfl,Kh o0 D hD]];rw[BH (off:=32) (size:=1) rfl rfl (by rw[AY o1];omega)];rw[show(splice ({ zero with digest:=D }:Nd).cells.toList 32 (Value.int .u8 2).cells.toList).toArray=({ zero with digest:=D,kind:=2 }:Nd).cells by have:=ND o1 2;exact congrArg List.toArray this];rw[BH (off:=33) (size:=1) rfl rfl (by rw[AY o2];omega)];rw[show(splice ({ zero with digest:=D,kind:=2 }:Nd).cells.toList 33 (Value.int .i64 d).cells.toList).toArray=({ zero with digest:=D,kind:=2,depth:=d }:Nd).cells by have:=LI o2 d;exact congrArg List.toArray this];rw[BH (off:=34) (size:=32) rfl (by simp[Value.cells,AU,hK]) (by rw[AY o3];omega)];rw[show(splice ({ zero with digest:=D,kind:=2,depth:=d }:Nd).cells.toList 34 (Value.agg (AS K)).cells.toList).toArray=({ zero with digest:=D,kind:=2,depth:=d,key:=K }:Nd).cells by have:=PX o3 K hK;exact congrArg List.toArray this];rw[BH (off:=99) (size:=1) rfl rfl (by rw[AY o4];omega)];rw[show(splice ({ zero with digest:=D,kind:=2,depth:=d,key:=K }:Nd).cells.toList 99 (Value.int .i64 l).cells.toList).toArray=({ zero with digest:=D,kind:=2,depth:=d,key:=K,left:=l }:Nd).cells by have:=Sh o4 l;exact congrArg List.toArray this];rw[BH (off:=100) (size:=1) rfl rfl (by rw[AY o5];omega)];rw[show(splice ({ zero with digest:=D,kind:=2,depth:=d,key:=K,left:=l }:Nd).cells.toList 100 (Value.int .i64 r).cells.toList).toArray=({ zero with digest:=D,kind:=2,depth:=d,key:=K,left:=l,right:=r }:Nd).cells by have:=Qh o5 r;exact congrArg List.toArray this];rw[BH (off:=101) (size:=1) rfl rfl (by rw[AY o6];omega)];rw[show(splice ({ zero with digest:=D,kind:=2,depth:=d,key:=K,left:=l,right:=r }:Nd).cells.toList 101 (Value.int .i64 s).cells.toList).toArray=({ zero with digest:=D,kind:=2,depth:=d,key:=K,left:=l,right:=r,size:=s }:Nd).cells by have:=Nr o6 s;exact congrArg List.toArray this];rw[BH (off:=102) (size:=1) rfl rfl (by rw[AY o7];omega)];rw[show(splice ({ zero with digest:=D,kind:=2,depth:=d,key:=K,left:=l,right:=r,size:=s }:Nd).cells.toList 102 (Value.int .i64 1).cells.toList).toArray=(inner D K d l r s).cells by have:=NI o7 1;exact congrArg List.toArray this];rfl
end Go.Proofs.YtngbdbpofifimaaGreat.Nd
namespace Go.Proofs.YtngbdbpofifimaaGreat.Store
open Go.RowKit Go.Proofs.YtngbdbpofifimaaGreat.ShaW Go.Proofs.YtngbdbpofifimaaGreat.Path
theorem BF.cons {w w1 w2:World} {s:Nat} {F F2:Nat→Prop} {σ':AG Nd} (hC:Ch F w w1) (hF:∀k,F2 k→F k∨w.heap.size≤k) (hm:BF w1 w2 s F2 σ'):BF w w2 s F σ':=by
 obtain⟨F3,g1,g2,g3⟩:=hm;exact⟨F3,g1,hC.trans g2 hF,fun k hk=>(g3 k hk).elim (hF k) (fun h=>.inr (Nat.le_trans hC.size h))⟩
theorem Km (n:Nat) (w:World) (h1:1≤n) (h2:n≤65536) :
 Calls Tryz.prog 45 #[.int .i64 n] w fun e w'=>∃s F,e=.returned (.tuple #[.pointer (some ⟨s,0,none⟩),.int .i64 0])∧At w' s F ⟨n,[],[]⟩∧(∀k,F k→w.heap.size≤k)∧AN w w':=by
 have HC:=Lib.hid (SlabN.Km n w h1 h2);clear h1 h2;go_enter Tryz.func45,Tryz.ntmps45;go_wp2_with fail;refine HC.out.mono ?_;rintro e w1 ⟨rfl,ha,hc,hs⟩;have HA:=(hIq ha (aIq hc hs))
 clear ha hc hs;go_wp2;go_ret2;have hs:=HA.out.2.2;refine⟨_,fun k=>k=w.heap.size∨k=w1.heap.size,rfl,⟨w.heap.size,fun k=>k=w.heap.size,heap_alloc_new _ _,HA.out.1.Ae ((Ch.refl (fun _=>False) w1).alloc _) (fun _ _ h=>h),fun m n c h=>by simp at h,.inr rfl,fun k hk=>⟨.inl hk,by omega⟩,fun k hk=>by simp;omega⟩,fun k hk=>by omega,HA.out.2.1.alloc _⟩
def Au (σ:AG Nd) (n:Int):Int×AG Nd:=if (σ.hold n).1=0 then (0,bump (σ.hold n).2 n 1) else ((σ.hold n).1,σ)
theorem Rf {α:Type} {σ:AG α} {n:Int} (h:(σ.hold n).1≠0):(σ.hold n).2=σ:=by
 unfold AG.hold at h ⊢;split
 · rfl
 split
 · rfl
 rename_i h2 h3;rw[h2] at h;simp[h3] at h
theorem NL {α:Type} {σ:AG α} {n:Int} {m:Nat} {y:α} {c:Nat} (h:(σ.hold n).2.slots[m]?=some (y,c)):∃c',σ.slots[m]?=some (y,c'):=by
 unfold AG.hold at h;cases hs:σ.get? n with
 | none=>rw[hs] at h;exact⟨c,h⟩
 | some x =>
  rw[hs] at h;obtain⟨m',rfl,hx,_,hl⟩:=AG.Ac hs;simp only at h;split at h
  · exact⟨c,h⟩
  simp only[AG.setAt,show((m':Int)+1-1).toNat=m' by omega] at h;by_cases hm:m'=m
  · subst hm
    rw[List.getElem?_set_self hl] at h;cases h;exact⟨x.2,hx⟩
  rw[List.getElem?_set_ne hm] at h;exact⟨c,h⟩
theorem MJ {w:World} {s:Nat} {F:Nat→Prop} {σ:AG Nd} (h:At w s F σ) (n:Int) :
 Calls Tryz.prog 130 #[.pointer (some ⟨s,0,none⟩),.int .i64 n] w fun e w'=>e=.returned (.int .i64 (Au σ n).1)∧BF w w' s F (Au σ n).2:=by
 obtain⟨a,G,h1,h2,h3,h4,h5,h6⟩:=h;have hc:=SlabN.MJ h2 n;rw[AG.Rx] at hc
 have hl:∀w',SlabN.BF w w' a G ((σ.hold n).2.map Nd.enc)→BF w w' s F (σ.hold n).2:=fun w' hm=>lift h1 h4 h5 h6 hm fun m y c hs=>by
  obtain⟨c',hs'⟩:=NL hs;exact h3 m y c' hs'
 have c0:=AH h1 (i:=0) rfl;have HL:=Lib.hid hl;have HR:=Lib.hid h1;by_cases he:(σ.hold n).1=0
 · have e1:Au σ n=(0,bump (σ.hold n).2 n 1):=by unfold Au;rw[if_pos he]
   rw[e1];simp only at hc;rw[he] at hc;have HC:=Lib.hid hc;clear h1 h2 h3 h4 h5 h6 hc hl he e1;go_enter Tryz.func130,Tryz.ntmps130;go_wp2_with fail;refine(An HR.out).mono ?_;rintro e w1 ⟨rfl,rfl⟩;go_wp2_with fail;refine HC.out.mono ?_;rintro e w2 ⟨rfl,hm⟩;have hm2:=HL.out _ hm;obtain⟨F2,hA2,hC2,hF2⟩:=hm2;have H2:=(hIq hA2 (aIq hC2 hF2))
   clear hm hA2 hC2 hF2;go_wp2_with fail;refine(Ff H2.out.1 n 1).mono ?_;rintro e w3 ⟨⟨v,rfl⟩,hm3⟩;have H3:=Lib.hid hm3;clear hm3;go_wp2;go_ret;exact⟨rfl,BF.cons H2.out.2.1 H2.out.2.2 H3.out⟩
 have e1:Au σ n=((σ.hold n).1,σ):=by unfold Au;rw[if_neg he]
 rw[e1];simp only at hc;have hb:((σ.hold n).1 != 0)=true:=by simpa using he
 have hst:=Rf he;rw[hst] at HL;rw[hst] at hc;generalize (σ.hold n).1=er at hc hb;have HC:=Lib.hid hc;clear h1 h2 h3 h4 h5 h6 hc hl he e1 hst;go_enter Tryz.func130,Tryz.ntmps130;go_wp2_with fail;refine(An HR.out).mono ?_;rintro e w1 ⟨rfl,rfl⟩;go_wp2_with fail;refine HC.out.mono ?_;rintro e w2 ⟨rfl,hm⟩;have HM:=Lib.hid hm;clear hm;go_wp2;go_ret;exact⟨rfl,HL.out _ HM.out⟩
def As (σ:AG Nd) (key value:List UInt8) (v:Value):Int×Int×AG Nd :=
 if 1024<value.length then (0,4,σ) else σ.take (Nd.leaf (Tag.D4 key (Tag.Bb value)) key (Tag.Bb value) value v)
theorem Nj {α:Type} {σ:AG α} {x y:α} {m c:Nat} (h:(σ.take x).2.2.slots[m]?=some (y,c)):y=x∨∃c',σ.slots[m]?=some (y,c'):=by
 unfold AG.take at h;split at h
 · exact .inr ⟨c,h⟩
 cases hg:σ.free.getLast? with
 | none =>
  rw[hg] at h;simp only at h;rcases Nat.lt_or_ge m σ.slots.length with hm|hm
  · rw[List.getElem?_append_left hm] at h;exact .inr ⟨c,h⟩
  rw[List.getElem?_append_right hm] at h;cases hq:m-σ.slots.length with
  | zero=>rw[hq] at h;simp at h;exact .inl h.1.symm
  | succ k=>rw[hq] at h;simp at h
 | some n =>
  rw[hg] at h;simp only at h;by_cases hm:n-1=m
  · rw[hm] at h
    rcases Nat.lt_or_ge m σ.slots.length with hl|hl
    · rw[List.getElem?_set_self hl] at h;cases h;exact .inl rfl
    rw[List.getElem?_eq_none (by simpa using hl)] at h;cases h
  rw[List.getElem?_set_ne hm] at h;exact .inr ⟨c,h⟩
theorem Lg {w:World} {s:Nat} {F:Nat→Prop} {σ:AG Nd} (h:At w s F σ) {x:Nd} (hx:x.Ok) (hb:Bytes w x.addr x.value) (hk:∀k,x.addr.ownBlock=some k→¬F k∧k<w.heap.size) :
 ∃a G,w.heap[s]?=some (.cells #[.pointer (some ⟨a,0,none⟩)] 174 (0,0))∧SlabN.At SlabN.OkV w a G (σ.map Nd.enc)∧(∀k,G k→F k∧k≠s∧k<w.heap.size) ∧
  ∀w',SlabN.BF w w' a G ((σ.take x).2.2.map Nd.enc)→BF w w' s (fun k=>F k∨x.addr.ownBlock=some k) (σ.take x).2.2:=by
 obtain⟨a,G,h1,h2,h3,h4,h5,h6⟩:=h;refine⟨a,G,h1,h2,fun k hk=>⟨(h5 k hk).1,(h5 k hk).2,h6 k (h5 k hk).1⟩,fun w' hm=>lift h1 (.inl h4) (fun k hk=>⟨.inl (h5 k hk).1,(h5 k hk).2⟩) (fun k h=>h.elim (h6 k) (fun h=>(hk k h).2)) hm fun m y c hs=>?_⟩;rcases Nj hs with rfl|⟨c',hs'⟩
 · exact⟨hx,hb,fun k h=>⟨.inr h,fun e=>(hk k h).1 (e▸h4),fun g=>(hk k h).1 (h5 k g).1⟩⟩
 obtain⟨q1,q2,q3⟩:=h3 m y c' hs';exact⟨q1,q2,fun k h=>⟨.inl (q3 k h).1,(q3 k h).2⟩⟩
end Go.Proofs.YtngbdbpofifimaaGreat.Store

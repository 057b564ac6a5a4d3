/- Laws of the layers below. -/
import Derived.Test.YtngbdbpofifimaaGreatQl45
set_option maxHeartbeats 3200000
set_option maxRecDepth 100000
set_option linter.unusedVariables false
namespace Go.Proofs.YtngbdbpofifimaaGreat.Store
open Go.RowKit Go.Sort Go.Proofs.YtngbdbpofifimaaGreat.ShaW Go.Proofs.YtngbdbpofifimaaGreat.Path Go.Proofs.YtngbdbpofifimaaGreat.Tag
section
variable {w : World}
theorem Pj (l r:List UInt8) (hl:l.length=32) (hr:r.length=32) (w:World):Calls Tryz.prog 183 #[.agg (AK l),.agg (AK r)] w (Js w (1::(l++r))):=by
 obtain⟨L,hL⟩:∃L,L=AK l:=⟨_,rfl⟩
 obtain⟨R,hR⟩:∃R,R=AK r:=⟨_,rfl⟩
 obtain⟨w3,hw3⟩:∃w3,w3=((w.alloc (.cells L 47)).alloc (.cells R 35)):=⟨_,rfl⟩
 have g0:w3.heap[w.heap.size]?=some (.cells L 47 (0,0)):=by rw[hw3];exact AM (heap_alloc_new _ _) _
 have g1:w3.heap[w.heap.size+1]?=some (.cells R 35 (0,0)):=by
  rw[hw3];have:=heap_alloc_new (w.alloc (.cells L 47)) (.cells R 35);simpa using this
 have hs3:w3.heap.size=w.heap.size+1+1:=by rw[hw3];simp
 have hc3:Ch (fun _=>False) w w3:=by rw[hw3];exact((Ch.refl _ _).alloc _).alloc _
 have hp:Hw (w3.drew.alloc (.cells #[.slice (some ⟨w.heap.size,0,none⟩) 32 32,.slice (some ⟨w.heap.size+1,0,none⟩) 32 32] 29)) (.slice (some ⟨w3.heap.size,0,none⟩) 2 2) [l,r]:=by
  have hcx:Ch (fun _=>False) w3 (w3.drew.alloc (.cells #[.slice (some ⟨w.heap.size,0,none⟩) 32 32,.slice (some ⟨w.heap.size+1,0,none⟩) 32 32] 29)):=(Ch.refl _ _).drew.alloc _;have hrow:=heap_alloc_new w3.drew (.cells #[.slice (some ⟨w.heap.size,0,none⟩) 32 32,.slice (some ⟨w.heap.size+1,0,none⟩) 32 32] 29);rw[hL] at g0;rw[hR] at g1;have b0:=(Bytes.row g0 hl (by unfold maxLen;omega)).Af hcx (fun _ _ h=>h);have b1:=(Bytes.row g1 hr (by unfold maxLen;omega)).Af hcx (fun _ _ h=>h);refine⟨_,2,rfl,fun i p h=>?_⟩
  match i,h with
  | 0,h =>
   simp at h;subst h;exact⟨w3.heap.size,0,_,rfl,AH hrow rfl,b0,fun _ k hk=>by cases hk;simp;omega⟩
  | 1,h =>
   simp at h;subst h;exact⟨w3.heap.size,0,_,rfl,AH hrow rfl,b1,fun _ k hk=>by cases hk;simp;omega⟩
  | i+2,h=>simp at h
 have hcall:=SH 1 hp (by simp[hl,hr]) (by simp);rw[show [l,r].flatten=l++r by simp] at hcall;have hs0:∀w0:World,(Instr.sliceAt 47 (.pointer (some ⟨w.heap.size,0,none⟩)) none none none).run Tryz.prog w0=.ok (.slice (some ⟨w.heap.size,0,none⟩) 32 32) w0:=fun w0=>CK w0 47 32 (by kernel_rfl) (by kernel_rfl) (by kernel_rfl) _ _
 have hs1:∀w0:World,(Instr.sliceAt 35 (.pointer (some ⟨w.heap.size+1,0,none⟩)) none none none).run Tryz.prog w0=.ok (.slice (some ⟨w.heap.size+1,0,none⟩) 32 32) w0:=fun w0=>CK w0 35 32 (by kernel_rfl) (by kernel_rfl) (by kernel_rfl) _ _
 rw[←hL, ←hR];obtain⟨tx,htx⟩:∃tx,tx=1::(l++r):=⟨_,rfl⟩
 rw[←htx] at hcall ⊢;have HC:=Lib.hid hcall;have G2:=(hIq hs3 hc3)
 have W3:=Lib.hid hw3;clear hcall hp hl hr g0 g1 hs3 hc3 hw3 hL hR htx;go_enter Tryz.func183,Tryz.ntmps183;go_wp2_with fail;rw[←W3.out];go_still_tail 2,(by kernel_rfl)
 show wpList _ _ _ _ _ w3.drew
 go_wp2_with fail;refine HC.out.mono ?_;rintro e w4 ⟨q,rfl,hq,a4⟩;have a5:=(G2.out.2.drew.alloc (.cells #[.slice (some ⟨w.heap.size,0,none⟩) 32 32,.slice (some ⟨w.heap.size+1,0,none⟩) 32 32] 29))
 have H4:=(hIq (hq.base (fun k hk=>Nat.le_trans a5.size (hq.lt k hk).1)) (a5.trans a4 (fun _=>fEq)))
 clear hq a4 a5;go_wp2;go_ret;exact⟨q,rfl,H4.out.1,H4.out.2⟩
theorem OP (w:World):Calls Tryz.prog 185 #[] w (Js w [0]):=by
 have hp:Hw w (.slice none 0 0) []:=⟨none,0,rfl,fun i p h=>by simp at h⟩
 have hcall:=SH 0 hp (by simp) (by simp);have HC:=Lib.hid hcall;clear hp hcall;go_enter Tryz.func185,Tryz.ntmps185;go_wp2_with fail;refine HC.out.mono ?_;rintro e w4 ⟨q,rfl,hq,a4⟩;have H4:=(hIq hq a4)
 clear hq a4;go_wp2;go_ret;exact⟨q,rfl,H4.out.1,H4.out.2⟩
end
theorem Pw {k:Nat} {a b c d:List UInt8} (ha:a.length=32) (hb:b.length=32) (hc:c.length=32) (hd:d.length=32) (w:World) :
 (Go.binOp BinOp.neq 92 (.agg (CG k a b c d)) (.agg (CG k a b c d))).run Tryz.prog w=.ok (.bool false) w:=by
 have h:=TL (k:=k) ha hb hc hd w;generalize CG k a b c d=X at h ⊢;rw[run_eql_struct] at h;rw[run_neq_struct];cases hq:(Op.equalIn 10000 92 (.agg X) (.agg X)).run Tryz.prog w with
 | ok v w' =>
  rw[hq] at h;simp only[Result.andThen,Result.ok.injEq,Value.bool.injEq] at h ⊢;exact⟨by rw[h.1];rfl,h.2⟩
 | _=>rw[hq] at h;simp[Result.andThen] at h
theorem Fh {k:Nat} {a b c d:List UInt8} (ha:a.length=32) (hb:b.length=32) (hc:c.length=32) (hd:d.length=32) :
 (CG k a b c d)[0]?=some (.int .u8 (k:Nat))∧(CG k a b c d).extract 1 (1+32)=AK a∧(CG k a b c d).extract 33 (33+32)=AK b:=by
 have ex:∀(p q s:List Value) (n m:Nat),p.length=n→q.length=m-n→((p++(q++s)).toArray.extract n m)=q.toArray:=fun p q s n m hp hq=>by
  apply Array.ext';rw[Array.toList_extract,List.extract_eq_take_drop]
  show((p++(q++s)).drop n).take (m-n)=q
  rw[←hp,List.drop_left,hp, ←hq,List.take_left]
 exact⟨rfl,ex [.int .u8 (k:Nat)] (a.map bv) _ 1 33 rfl (by simp[ha]),ex (.int .u8 (k:Nat)::a.map bv) (b.map bv) (c.map bv++d.map bv) 33 65 (by simp[ha]) (by simp[hb])⟩
theorem MD {a b:List UInt8} (ha:a.length=32) (hb:b.length=32) (w:World):Calls Tryz.prog 182 #[.agg (CG 1 a b Nd.z32 Nd.z32)] w fun e w'=>e=.returned (.int .i64 0)∧Adds w w':=by
 obtain⟨k0,ka,kb⟩:=Fh (k:=1) ha hb (c:=Nd.z32) (d:=Nd.z32) rfl rfl;have hneq:=Pw (k:=1) ha hb (c:=Nd.z32) (d:=Nd.z32) rfl rfl;obtain⟨O,hO⟩:∃O,O=CG 1 a b Nd.z32 Nd.z32:=⟨_,rfl⟩
 have hOs:O.size=129∧∀v∈O.toList,v.oneCell'=true:=by rw[hO];exact⟨EO ha hb rfl rfl,GL _ _ _ _ _⟩
 have hbt:=Hf a b ha hb;obtain⟨K,hK⟩:∃K,K=AK a:=⟨_,rfl⟩
 obtain⟨D,hD⟩:∃D,D=AK b:=⟨_,rfl⟩
 obtain⟨Y,hY⟩:∃Y,Y=CP:=⟨_,rfl⟩
 have hyf:=B6;have hYs:CP.size=129:=rfl;rw[←hY] at hyf hYs;rw[←hO] at k0 ka kb hneq;rw[←hK] at ka;rw[←hD] at kb;rw[←hO, ←hK, ←hD] at hbt;rw[←hO];have k0':O[0]?=some (.int .u8 1):=k0;have HK:=(hIq ka kb)
 have HO:=(hIq hOs hbt)
 have HY:=(hIq hyf hYs)
 clear ka kb hOs hbt hyf hYs hY hO hK hD k0 ha hb;go_enter Tryz.func182,Tryz.ntmps182
 go_wp2_with (first
  | fail
  | ((with_reducible show zOq (.alloc 92));refine AI rfl 92 rfl (.agg Y) HY.out.1.1 ?_;dsimp only[Value.cells];try simp only[World.size_alloc])
  | ((with_reducible show zOq (.load 47 _));refine AG rfl 47 _ rfl w.heap.size 1 rfl (AM (heap_alloc_new _ _) _) Tryz.underlying47 rfl AY (by rw[HO.out.1.1];omega) K HK.out.1 ?_)
  | ((with_reducible show zOq (.load 35 _));refine AG rfl 35 _ rfl w.heap.size 33 rfl (AM (heap_alloc_new _ _) _) Tryz.underlying35 rfl Bl (by rw[HO.out.1.1];omega) D HK.out.2 ?_)
  | ((with_reducible show zOq (.build 92 _));refine CQ rfl 92 0 1 2 _ _ _ rfl (.int .u8 1) (.agg K) (.agg D) rfl rfl rfl O HO.out.2 ?_)
  | ((with_reducible show zOq (.store 92 _ _));refine AE rfl 92 _ _ rfl (w.heap.size+1) 0 O rfl rfl (by have:=heap_alloc_new (w.alloc (.cells O 92)) (.cells Y 92);simpa using this) (by rw[HY.out.1.2.1,HO.out.1.1]) (by rw[HO.out.1.1,HY.out.2];omega) HO.out.1.2 O (by rw[AJ _ _ (by rw[Array.length_toList,Array.length_toList,HO.out.1.1,HY.out.2])]) ?_)
  | ((with_reducible show zOq (.load 92 _));refine AG rfl 92 _ rfl w.heap.size 0 rfl (row_setRow (AM (heap_alloc_new _ _) _) (by omega) _) Tryz.underlying92 rfl HY.out.1.2.1 (by rw[HO.out.1.1];omega) O (by have:=HO.out.1.1;simp[←this]) ?_)
  | ((with_reducible show zOq (.load 92 _));refine AG rfl 92 _ rfl (w.heap.size+1) 0 rfl (AF (by have:=heap_alloc_new (w.alloc (.cells O 92)) (.cells Y 92);simpa using this) _) Tryz.underlying92 rfl HY.out.1.2.1 (by rw[HO.out.1.1];omega) O (by have:=HO.out.1.1;simp[←this]) ?_))
 go_ret;exact⟨rfl,(((Ch.refl _ _).alloc _).alloc _).setRow (.inr (by omega)) _⟩
theorem M7 (w:World):Calls Tryz.prog 182 #[.agg (CG 0 Nd.z32 Nd.z32 Nd.z32 Nd.z32)] w fun e w'=>e=.returned (.int .i64 0)∧Adds w w':=by
 obtain⟨k0,_,_⟩:=Fh (k:=0) (a:=Nd.z32) (b:=Nd.z32) (c:=Nd.z32) (d:=Nd.z32) rfl rfl rfl rfl;have hneq:=Pw (k:=0) (a:=Nd.z32) (b:=Nd.z32) (c:=Nd.z32) (d:=Nd.z32) rfl rfl rfl rfl;have hyf:=B6;have hYs:CP.size=129:=rfl;rw[ON] at hyf hYs;obtain⟨O,hO⟩:∃O,O=CG 0 Nd.z32 Nd.z32 Nd.z32 Nd.z32:=⟨_,rfl⟩
 rw[←hO] at k0 hneq hyf hYs;rw[←hO];have k0':O[0]?=some (.int .u8 0):=k0;have HY:=(hIq hyf hYs)
 clear hyf hYs hO k0;go_enter Tryz.func182,Tryz.ntmps182
 go_wp2_with (first
  | fail
  | ((with_reducible show zOq (.alloc 92));refine AI rfl 92 rfl (.agg O) HY.out.1.1 ?_;dsimp only[Value.cells];try simp only[World.size_alloc])
  | ((with_reducible show zOq (.load 92 _));refine AG rfl 92 _ rfl w.heap.size 0 rfl (AM (heap_alloc_new _ _) _) Tryz.underlying92 rfl HY.out.1.2.1 (by rw[HY.out.2];omega) O (by have:=HY.out.2;simp[←this]) ?_)
  | ((with_reducible show zOq (.load 92 _));refine AG rfl 92 _ rfl (w.heap.size+1) 0 rfl (by have:=heap_alloc_new (w.alloc (.cells O 92)) (.cells O 92);simpa using this) Tryz.underlying92 rfl HY.out.1.2.1 (by rw[HY.out.2];omega) O (by have:=HY.out.2;simp[←this]) ?_))
 go_ret;exact⟨rfl,((Ch.refl _ _).alloc _).alloc _⟩
def Ip:Tr→List UInt8
 | .leaf k v=>1::(k++Tag.Av v)
 | _ => [0]
def OY (w:World) (bs:List UInt8) (e:Ending) (w':World):Prop:=∃q,e=.returned (.tuple #[q,.int .i64 0])∧w'.ownsRow w.heap.size 5 1 q bs.length (bs.map bv)∧Adds w w'
theorem Ti {t:Tr} (ht:t.isNode=false) (hk:∀e∈t.ents,e.1.length=32) (w:World):Calls Tryz.prog 99 #[.agg (FQ t)] w (OY w (Ip t)):=by
 cases t with
 | node l r=>cases ht
 | nil =>
  show Calls Tryz.prog 99 #[.agg (CG 0 Nd.z32 Nd.z32 Nd.z32 Nd.z32)] w (OY w [0])
  obtain⟨k0,_,_⟩:=Fh (k:=0) (a:=Nd.z32) (b:=Nd.z32) (c:=Nd.z32) (d:=Nd.z32) rfl rfl rfl rfl;have hch:=fun w=>M7 w
  have hyf:=B6;have hYs:CP.size=129:=rfl;rw[ON] at hyf hYs;obtain⟨O,hO⟩:∃O,O=CG 0 Nd.z32 Nd.z32 Nd.z32 Nd.z32:=⟨_,rfl⟩
  rw[←hO] at k0 hch hyf hYs;rw[←hO];have k0':O[0]?=some (.int .u8 0):=k0;have HY:=(hIq hyf (aIq hYs hch))
  clear hyf hYs hO k0 hch hk ht;go_enter Tryz.func99,Tryz.ntmps99
  go_wp2_with (first
   | fail
   | ((with_reducible show zOq (.load 92 _));refine AG rfl 92 _ rfl w.heap.size 0 rfl (heap_alloc_new _ _) Tryz.underlying92 rfl HY.out.1.2.1 (by rw[HY.out.2.1];omega) O (by have:=HY.out.2.1;simp[←this]) ?_))
  refine(HY.out.2.2 _).mono ?_;rintro e w1 ⟨rfl,a1⟩;have c0:=AH (a1.row (heap_alloc_new w (.cells O 92)) id) k0';have A1:=Lib.hid (((Ch.refl (fun _=>False) w).alloc (.cells O 92)).trans a1 (fun _=>fEq));clear a1;go_wp2_with fail;refine(OP w1).mono ?_;rintro e w2 ⟨q,rfl,hq,a2⟩;have H2:=(hIq hq a2)
  clear hq a2;go_wp2;go_ret2;exact⟨q,rfl,H2.out.1.base (fun k hk=>Nat.le_trans A1.out.size (H2.out.1.lt k hk).1),A1.out.trans H2.out.2 (fun _=>fEq)⟩
 | leaf a v =>
  have ha:a.length=32:=hk (a,v) (List.mem_singleton.2 rfl);have hb:(Tag.Av v).length=32:=Tag.AT _ _;obtain⟨b,hbe⟩:∃b,b=Tag.Av v:=⟨_,rfl⟩
  show Calls Tryz.prog 99 #[.agg (CG 1 a (Tag.Av v) Nd.z32 Nd.z32)] w (OY w (1::(a++Tag.Av v)))
  rw[←hbe] at hb ⊢;obtain⟨k0,ka,kb⟩:=Fh (k:=1) ha hb (c:=Nd.z32) (d:=Nd.z32) rfl rfl;have hch:=fun w=>MD ha hb w
  have hlt:=fun w=>Pj a b ha hb w
  have hOs:=EO (k:=1) ha hb (c:=Nd.z32) (d:=Nd.z32) rfl rfl;obtain⟨O,hO⟩:∃O,O=CG 1 a b Nd.z32 Nd.z32:=⟨_,rfl⟩
  obtain⟨K,hK⟩:∃K,K=AK a:=⟨_,rfl⟩
  obtain⟨D,hD⟩:∃D,D=AK b:=⟨_,rfl⟩
  obtain⟨tx,htx⟩:∃tx,tx=1::(a++b):=⟨_,rfl⟩
  rw[←hO] at k0 ka kb hch hOs;rw[←hK] at ka hlt;rw[←hD] at kb hlt;rw[←htx] at hlt;rw[←hO, ←htx];have k0':O[0]?=some (.int .u8 1):=k0;have HY:=(hIq hOs (aIq hch (aIq hlt (aIq ka (aIq kb B6.2.1)))))
  clear hOs hO k0 hch hk ht hlt ka kb hK hD htx hbe ha hb;go_enter Tryz.func99,Tryz.ntmps99
  go_wp2_with (first
   | fail
   | ((with_reducible show zOq (.load 92 _));refine AG rfl 92 _ rfl w.heap.size 0 rfl (heap_alloc_new _ _) Tryz.underlying92 rfl HY.out.2.2.2.2.2 (by rw[HY.out.1];omega) O (by have:=HY.out.1;simp[←this]) ?_))
  refine(HY.out.2.1 _).mono ?_;rintro e w1 ⟨rfl,a1⟩;have r1:=a1.row (heap_alloc_new w (.cells O 92)) id;have c0:=AH r1 k0';have A1:=(hIq (((Ch.refl (fun _=>False) w).alloc (.cells O 92)).trans a1 (fun _=>fEq)) r1)
  clear a1 r1
  go_wp2_with (first
   | fail
   | ((with_reducible show zOq (.load 47 _));refine AG rfl 47 _ rfl w.heap.size 1 rfl A1.out.2 Tryz.underlying47 rfl AY (by rw[HY.out.1];omega) K HY.out.2.2.2.1 ?_)
   | ((with_reducible show zOq (.load 35 _));refine AG rfl 35 _ rfl w.heap.size 33 rfl A1.out.2 Tryz.underlying35 rfl Bl (by rw[HY.out.1];omega) D HY.out.2.2.2.2.1 ?_))
  refine(HY.out.2.2.1 w1).mono ?_;rintro e w2 ⟨q,rfl,hq,a2⟩;have H2:=(hIq hq a2)
  clear hq a2;go_wp2;go_ret2;exact⟨q,rfl,H2.out.1.base (fun k hk=>Nat.le_trans A1.out.1.size (H2.out.1.lt k hk).1),A1.out.1.trans H2.out.2 (fun _=>fEq)⟩
theorem FN {t:Tr} (ht:t.isNode=false) (hk:∀e∈t.ents,e.1.length=32):(FQ t).size=129∧∀v∈(FQ t).toList,v.oneCell'=true:=by
 cases t with
 | node l r=>cases ht
 | nil=>exact⟨EO rfl rfl rfl rfl,GL _ _ _ _ _⟩
 | leaf a v=>exact⟨EO (hk (a,v) (List.mem_singleton.2 rfl)) (Tag.AT _ _) rfl rfl,GL _ _ _ _ _⟩
theorem UI {t:Tr} (hk:∀e∈t.ents,e.1.length=32):(Ip t).length≤65:=by
 cases t with
 | node l r=>exact Nat.le_of_ble_eq_true rfl
 | nil=>exact Nat.le_of_ble_eq_true rfl
 | leaf a v =>
  have h1:=hk (a,v) (List.mem_singleton.2 rfl);have h2:(Tag.Av v).length=32:=Tag.AT _ _
  show(1::(a++Tag.Av v)).length≤65
  rw[List.length_cons,List.length_append,h2];have h3:a.length=32:=h1;omega
end Go.Proofs.YtngbdbpofifimaaGreat.Store
namespace Go.Proofs.YtngbdbpofifimaaGreat.Store
open Go.RowKit Go.Proofs.YtngbdbpofifimaaGreat.ShaW Go.Proofs.YtngbdbpofifimaaGreat.Path Go.Proofs.YtngbdbpofifimaaGreat.Law9
section
variable {w w' : World} {s : Nat} {F : Nat→Prop} {σ : AD Nd}
theorem RM (h:At w s F σ) {n:Int} (hk:(nd σ n).kind=0):Calls Tryz.prog 181 #[.pointer (some ⟨s,0,none⟩),.int .i64 n] w fun e w'=>e=.returned (.agg CP)∧Adds w w':=by
 have hok:=h.ok n;have hg:=fun w1 (hc:Adds w w1)=>Cu (h.adds hc) n
 obtain⟨N,Z,hN,hn,hz⟩:=told h n;rw[←hN] at hg;have k0:N[32]?=some (.int .u8 0):=by rw[hN,Nd.Bh hok,hk];rfl
 obtain⟨Y,hY⟩:∃Y,Y=CP:=⟨_,rfl⟩
 have hyf:=B6;have hy1:=Na;have hYs:CP.size=129:=rfl;rw[←hY] at hyf hy1 hYs ⊢;have HG:=Lib.hid hg;have HN:=Lib.hid hn;have HZ:=Lib.hid hz;have HY:=(hIq hyf (aIq hYs hy1))
 clear hok hg hN hn hz h hY hyf hYs hy1 hk;go_enter Tryz.func181,Tryz.ntmps181;go_wp2_with (first|fail|((with_reducible show zOq (.alloc 92));refine AI rfl 92 rfl (.agg Y) HY.out.1.1 ?_;dsimp only[Value.cells];try simp only[World.size_alloc]));refine(HG.out _ ((Ch.refl _ _).alloc _)).mono ?_;rintro e w1 ⟨rfl,hc1⟩;have hy1:=hc1.row (heap_alloc_new w (.cells Y 92)) id;have c0:=AH (AF (heap_alloc_new w1 (.cells Z 168)) N) k0;have C1:=Lib.hid (((Ch.refl (fun _=>False) w).alloc (.cells Y 92)).trans hc1 (fun _=>fEq));have hlt:=Ac hy1;have HY1:=Lib.hid hy1;clear hc1 hy1 k0
 go_wp2_with (first
  | fail
  | ((with_reducible show zOq (.alloc 168));refine AI rfl 168 rfl (.agg Z) HZ.out.1 ?_;dsimp only[Value.cells];try simp only[World.size_alloc])
  | ((with_reducible show zOq (.store 168 (.tmp 5) _));go_must (refine AE rfl 168 _ _ rfl w1.heap.size 0 N rfl rfl (heap_alloc_new _ _) (by rw[BV,HN.out.1]) (by rw[HN.out.1,HZ.out.2];omega) HN.out.2 N (by rw[AJ _ _ (by rw[Array.length_toList,Array.length_toList,HN.out.1,HZ.out.2])]) ?_))
  | ((with_reducible show zOq (.build 92 _));refine Cb rfl 92 rfl Y HY.out.1.2.2 ?_)
  | ((with_reducible show zOq (.store 92 _ _));refine AE rfl 92 _ _ rfl w.heap.size 0 Y rfl rfl (row_setRow (AM HY1.out _) (by omega) _) (by rw[HY.out.1.2.1,HY.out.2.1]) (by omega) HY.out.2.2 Y (by rw[AJ _ _ rfl]) ?_))
 have hws:=C1.out.size;exact AW (p:=4) rfl rfl (AF (row_setRow (AM HY1.out _) (by omega) _) _) Tryz.underlying92 rfl (by rw[HY.out.1.2.1,HY.out.2.1]) rfl ⟨rfl,((C1.out.alloc _).setRow (.inr hws) _).setRow (.inr (Nat.le_refl _)) _⟩
theorem Qg (h:At w s F σ) {n:Int} (hk:(nd σ n).kind=1):Calls Tryz.prog 181 #[.pointer (some ⟨s,0,none⟩),.int .i64 n] w fun e w'=>e=.returned (.agg (CG 1 (nd σ n).key (nd σ n).hash Nd.z32 Nd.z32))∧Adds w w':=by
 have hok:=h.ok n;have hg:=fun w1 (hc:Adds w w1)=>Cu (h.adds hc) n
 obtain⟨N,Z,hN,hn,hz⟩:=told h n;rw[←hN] at hg;have k0:N[32]?=some (.int .u8 1):=by rw[hN,Nd.Bh hok,hk];rfl
 have kk:N.extract 34 (34+32)=AK (nd σ n).key:=by rw[hN];exact Nd.BX hok
 have kh:N.extract 67 (67+32)=AK (nd σ n).hash:=by rw[hN];exact Nd.Xk hok
 obtain⟨Y,hY⟩:∃Y,Y=CP:=⟨_,rfl⟩
 have hyf:=B6;have hYs:CP.size=129:=rfl;rw[←hY] at hyf hYs;obtain⟨O,hO⟩:∃O,O=CG 1 (nd σ n).key (nd σ n).hash Nd.z32 Nd.z32:=⟨_,rfl⟩
 have hOs:O.size=129∧∀v∈O.toList,v.oneCell'=true:=by rw[hO];exact⟨EO hok.key hok.hash rfl rfl,GL _ _ _ _ _⟩
 have hbt:=Hf (nd σ n).key (nd σ n).hash hok.key hok.hash;obtain⟨K,hK⟩:∃K,K=AK (nd σ n).key:=⟨_,rfl⟩
 obtain⟨D,hD⟩:∃D,D=AK (nd σ n).hash:=⟨_,rfl⟩
 rw[←hK] at kk;rw[←hD] at kh;rw[←hO, ←hK, ←hD] at hbt;rw[←hO];have HG:=Lib.hid hg;have HK:=(hIq kk kh)
 have HN:=Lib.hid hn;have HZ:=Lib.hid hz;have HY:=(hIq hyf hYs)
 have HO:=(hIq hOs hbt)
 clear hok hg hN hn hz h hY hyf hYs hk hOs hbt hO hK hD kk kh;go_enter Tryz.func181,Tryz.ntmps181;go_wp2_with (first|fail|((with_reducible show zOq (.alloc 92));refine AI rfl 92 rfl (.agg Y) HY.out.1.1 ?_;dsimp only[Value.cells];try simp only[World.size_alloc]));refine(HG.out _ ((Ch.refl _ _).alloc _)).mono ?_;rintro e w1 ⟨rfl,hc1⟩;have hy1:=hc1.row (heap_alloc_new w (.cells Y 92)) id;have c0:=AH (AF (heap_alloc_new w1 (.cells Z 168)) N) k0;have C1:=Lib.hid (((Ch.refl (fun _=>False) w).alloc (.cells Y 92)).trans hc1 (fun _=>fEq));have hlt:=Ac hy1;have HY1:=Lib.hid hy1;clear hc1 hy1 k0
 go_wp2_with (first
  | fail
  | ((with_reducible show zOq (.alloc 168));refine AI rfl 168 rfl (.agg Z) HZ.out.1 ?_;dsimp only[Value.cells];try simp only[World.size_alloc])
  | ((with_reducible show zOq (.store 168 (.tmp 5) _));go_must (refine AE rfl 168 _ _ rfl w1.heap.size 0 N rfl rfl (heap_alloc_new _ _) (by rw[BV,HN.out.1]) (by rw[HN.out.1,HZ.out.2];omega) HN.out.2 N (by rw[AJ _ _ (by rw[Array.length_toList,Array.length_toList,HN.out.1,HZ.out.2])]) ?_))
  | ((with_reducible show zOq (.load 47 _));refine AG rfl 47 _ rfl w1.heap.size 34 rfl (AF (heap_alloc_new _ _) _) Tryz.underlying47 rfl AY (by rw[HN.out.1];omega) K HK.out.1 ?_)
  | ((with_reducible show zOq (.load 35 _));refine AG rfl 35 _ rfl w1.heap.size 67 rfl (AF (heap_alloc_new _ _) _) Tryz.underlying35 rfl Bl (by rw[HN.out.1];omega) D HK.out.2 ?_)
  | ((with_reducible show zOq (.build 92 _));refine CQ rfl 92 0 1 2 _ _ _ rfl (.int .u8 1) (.agg K) (.agg D) rfl rfl rfl O HO.out.2 ?_)
  | ((with_reducible show zOq (.store 92 _ _));refine AE rfl 92 _ _ rfl w.heap.size 0 O rfl rfl (row_setRow (AM HY1.out _) (by omega) _) (by rw[HY.out.1.2.1,HO.out.1.1]) (by rw[HO.out.1.1,HY.out.2];omega) HO.out.1.2 O (by rw[AJ _ _ (by rw[Array.length_toList,Array.length_toList,HO.out.1.1,HY.out.2])]) ?_))
 have hws:=C1.out.size;exact AW (p:=4) rfl rfl (AF (row_setRow (AM HY1.out _) (by omega) _) _) Tryz.underlying92 rfl (by rw[HY.out.1.2.1,HO.out.1.1]) rfl ⟨rfl,((C1.out.alloc _).setRow (.inr hws) _).setRow (.inr (Nat.le_refl _)) _⟩
theorem PT (h:At w s F σ) {n:Int} (hk:(nd σ n).kind=2):Calls Tryz.prog 181 #[.pointer (some ⟨s,0,none⟩),.int .i64 n] w fun e w'=>e=.returned (.agg (CG 2 Nd.z32 Nd.z32 (Ar σ (nd σ n).left) (Ar σ (nd σ n).right)))∧Adds w w':=by
 have hok:=h.ok n;have hg:=fun w1 (hc:Adds w w1)=>Cu (h.adds hc) n
 obtain⟨N,Z,hN,hn,hz⟩:=told h n;rw[←hN] at hg;have k0:N[32]?=some (.int .u8 2):=by rw[hN,Nd.Bh hok,hk];rfl
 have kl:N[99]?=some (.int .i64 (nd σ n).left):=by rw[hN,Nd.OL hok]
 have kr:N[100]?=some (.int .i64 (nd σ n).right):=by rw[hN,Nd.Lc hok]
 obtain⟨lf,hlf⟩:∃lf,lf=(nd σ n).left:=⟨_,rfl⟩
 obtain⟨rg,hrg⟩:∃rg,rg=(nd σ n).right:=⟨_,rfl⟩
 rw[←hlf] at kl ⊢;rw[←hrg] at kr ⊢;obtain⟨Y,hY⟩:∃Y,Y=CP:=⟨_,rfl⟩
 have hyf:=B6;have hYs:CP.size=129:=rfl;rw[←hY] at hyf hYs;obtain⟨O,hO⟩:∃O,O=CG 2 Nd.z32 Nd.z32 (Ar σ lf) (Ar σ rg):=⟨_,rfl⟩
 have hOs:O.size=129∧∀v∈O.toList,v.oneCell'=true:=by rw[hO];exact⟨EO rfl rfl (h.AT _) (h.AT _),GL _ _ _ _ _⟩
 have hbt:=KT (Ar σ lf) (Ar σ rg) (h.AT _) (h.AT _);obtain⟨A,hA⟩:∃A,A=AK (Ar σ lf):=⟨_,rfl⟩
 obtain⟨D,hD⟩:∃D,D=AK (Ar σ rg):=⟨_,rfl⟩
 rw[←hO, ←hA, ←hD] at hbt
 have hl:∀w1,Adds w w1→Calls Tryz.prog 58 #[.pointer (some ⟨s,0,none⟩),.int .i64 lf] w1 fun e w'=>e=.returned (.agg A)∧Adds w1 w':=fun w1 a=>by
  rw[hA];exact E7 (h.adds a) lf
 have hr:∀w1,Adds w w1→Calls Tryz.prog 58 #[.pointer (some ⟨s,0,none⟩),.int .i64 rg] w1 fun e w'=>e=.returned (.agg D)∧Adds w1 w':=fun w1 a=>by
  rw[hD];exact E7 (h.adds a) rg
 rw[←hO];have HG:=Lib.hid hg;have HN:=Lib.hid hn;have HK:=(hIq kl kr)
 have HZ:=Lib.hid hz;have HY:=(hIq hyf hYs)
 have HO:=(hIq hOs hbt)
 have HV:=(hIq hl hr)
 clear hok hg hN hn hz h hY hyf hYs hk hOs hbt hO hA hD kl kr hlf hrg hl hr;go_enter Tryz.func181,Tryz.ntmps181;go_wp2_with (first|fail|((with_reducible show zOq (.alloc 92));refine AI rfl 92 rfl (.agg Y) HY.out.1.1 ?_;dsimp only[Value.cells];try simp only[World.size_alloc]));refine(HG.out _ ((Ch.refl _ _).alloc _)).mono ?_;rintro e w1 ⟨rfl,hc1⟩;have hyr:=hc1.row (heap_alloc_new w (.cells Y 92)) id;have c0:=AH (AF (heap_alloc_new w1 (.cells Z 168)) N) k0;have C1:=Lib.hid (((Ch.refl (fun _=>False) w).alloc (.cells Y 92)).trans hc1 (fun _=>fEq));have hlt:=Ac hyr;have HY1:=Lib.hid hyr;clear hc1 hyr k0
 go_upto_region 6 with(first
  | fail
  | ((with_reducible show zOq (.alloc 168));refine AI rfl 168 rfl (.agg Z) HZ.out.1 ?_;dsimp only[Value.cells];try simp only[World.size_alloc])
  | ((with_reducible show zOq (.store 168 (.tmp 5) _));go_must (refine AE rfl 168 _ _ rfl w1.heap.size 0 N rfl rfl (heap_alloc_new _ _) (by rw[BV,HN.out.1]) (by rw[HN.out.1,HZ.out.2];omega) HN.out.2 N (by rw[AJ _ _ (by rw[Array.length_toList,Array.length_toList,HN.out.1,HZ.out.2])]) ?_)))
 have r1:((w1.alloc (.cells Z 168)).setRow w1.heap.size N).heap[w1.heap.size]?=some (.cells N 168 (0,0)):=AF (heap_alloc_new _ _) _;have r2:((w1.alloc (.cells Z 168)).setRow w1.heap.size N).heap[w.heap.size]?=some (.cells Y 92 (0,0)):=row_setRow (AM HY1.out _) (by omega) _;have a2:Adds w ((w1.alloc (.cells Z 168)).setRow w1.heap.size N):=(C1.out.alloc _).setRow (.inr C1.out.size) _;obtain⟨w2,hw2⟩:∃w2,w2=(w1.alloc (.cells Z 168)).setRow w1.heap.size N:=⟨_,rfl⟩
 obtain⟨B,hB⟩:∃B,B=w1.heap.size:=⟨_,rfl⟩
 rw[←hw2] at r1 r2 a2 ⊢;rw[←hB] at r1 ⊢;have HW:=(hIq r1 (aIq r2 a2))
 clear r1 r2 a2 hw2 c0 hlt hB;refine AO (fun wz=>wz.heap[B]?=some (.cells N 168 (0,0))∧wz.heap[w.heap.size]?=some (.cells Y 92 (0,0))∧Adds w wz) 8 [(0,false),(1,false),(2,false),(4,false),(5,false),(6,false),(3,true),(7,true)] (by kernel_rfl) (by kernel_rfl) ?_ ?_
 · exact⟨AP HW.out.1,AP HW.out.2.1,HW.out.2.2.drew⟩
 iterate 2
  refine plan_look rfl rfl (fun w0 hS=>(by clear hS;go_simp;try rfl)) ?_;simp only[Act.put,nAq,nBq,nCq]
 refine plan_look (v:=.int .i64 lf) rfl rfl (fun w0 hS=>(by have c:=AH hS.1 HK.out.1;clear hS;go_simp;try rfl)) ?_;simp only[Act.put,nAq,nBq,nCq]
 iterate 2
  refine plan_look rfl rfl (fun w0 hS=>(by clear hS;go_simp;try rfl)) ?_;simp only[Act.put,nAq,nBq,nCq]
 refine plan_look (v:=.int .i64 rg) rfl rfl (fun w0 hS=>(by have c:=AH hS.1 HK.out.2;clear hS;go_simp;try rfl)) ?_;simp only[Act.put,nAq,nBq,nCq];refine AV rfl ?_;go_wp2_with fail;refine(HV.out.1 _ HW.out.2.2.drew).mono ?_;rintro e wa ⟨rfl,aa⟩;have AA:=(hIq (aa.row (AP HW.out.1) id) (aIq (aa.row (AP HW.out.2.1) id) (HW.out.2.2.drew.trans aa (fun _=>fEq))))
 clear aa;dsimp only;go_step;refine wpList_nil ?_;change _∧_;refine⟨AA.out,?_⟩;refine AV rfl ?_;go_wp2_with fail;refine(HV.out.2 _ AA.out.2.2).mono ?_;rintro e wb ⟨rfl,ab⟩;have AB:=(hIq (ab.row AA.out.1 id) (aIq (ab.row AA.out.2.1 id) (AA.out.2.2.trans ab (fun _=>fEq))))
 clear ab;dsimp only;go_step;refine wpList_nil ?_;change _∧_;refine⟨AB.out,?_⟩;refine AZ ?_;simp only[List.drop_succ_cons,List.drop_zero];have hlt:=Ac AB.out.2.1
 go_wp2_with (first
  | fail
  | ((with_reducible show zOq (.build 92 _));refine CQ rfl 92 0 3 4 _ _ _ rfl (.int .u8 2) (.agg A) (.agg D) rfl rfl rfl O HO.out.2 ?_)
  | ((with_reducible show zOq (.store 92 _ _));refine AE rfl 92 _ _ rfl w.heap.size 0 O rfl rfl AB.out.2.1 (by rw[HY.out.1.2.1,HO.out.1.1]) (by rw[HO.out.1.1,HY.out.2];omega) HO.out.1.2 O (by rw[AJ _ _ (by rw[Array.length_toList,Array.length_toList,HO.out.1.1,HY.out.2])]) ?_))
 refine NoPanic.normal ?_;go_wp2;exact AW (p:=4) rfl rfl (AF AB.out.2.1 _) Tryz.underlying92 rfl (by rw[HY.out.1.2.1,HO.out.1.1]) rfl ⟨rfl,AB.out.2.2.setRow (.inr (Nat.le_refl _)) _⟩
theorem Xp (h:At w s F σ) (G:Good σ) (n:Int):Calls Tryz.prog 181 #[.pointer (some ⟨s,0,none⟩),.int .i64 n] w fun e w'=>e=.returned (.agg (L6 σ n))∧Adds w w':=by
 unfold L6;by_cases h1:(nd σ n).kind=1
 · rw[if_pos h1]
   exact Qg h h1
 rw[if_neg h1];by_cases h2:(nd σ n).kind=2
 · rw[if_pos h2]
   exact PT h h2
 rw[if_neg h2];refine RM h ?_;cases hs:σ.get? n with
 | none=>rw[JS hs];rfl
 | some x =>
  rw[Bq hs] at h1 h2;exact absurd (G.fit.leaf (BZ hs) h2).1 h1
end
end Go.Proofs.YtngbdbpofifimaaGreat.Store

/- Laws of the layers below. -/
import Derived.Test.YtooijgcildbnlaaGreatQj19
set_option maxHeartbeats 3200000
set_option maxRecDepth 100000
set_option linter.unusedVariables false
namespace Go.Proofs.YtooijgcildbnlaaGreat.Store
open Go.RowKit Go.Sort Go.Proofs.YtooijgcildbnlaaGreat.ShaW Go.Proofs.YtooijgcildbnlaaGreat.Path Go.Proofs.YtooijgcildbnlaaGreat.Tag
section
variable {w : World}
theorem Ns (l r:List UInt8) (hl:l.length=32) (hr:r.length=32) (w:World):Calls Tryz.prog 292 #[.agg (AM l),.agg (AM r)] w (Jq w (1::(l++r))):=by
 obtain⟨L,hL⟩:∃L,L=AM l:=⟨_,rfl⟩
 obtain⟨R,hR⟩:∃R,R=AM r:=⟨_,rfl⟩
 obtain⟨w3,hw3⟩:∃w3,w3=((w.alloc (.cells L 24)).alloc (.cells R 85)):=⟨_,rfl⟩
 have g0:w3.heap[w.heap.size]?=some (.cells L 24 (0,0)):=by rw[hw3];exact AJ (heap_alloc_new _ _) _
 have g1:w3.heap[w.heap.size+1]?=some (.cells R 85 (0,0)):=by
  rw[hw3];have:=heap_alloc_new (w.alloc (.cells L 24)) (.cells R 85);simpa using this
 have hs3:w3.heap.size=w.heap.size+1+1:=by rw[hw3];simp
 have hc3:Ch (fun _=>False) w w3:=by rw[hw3];exact((Ch.refl _ _).alloc _).alloc _
 have hp:FV (w3.drew.alloc (.cells #[.slice (some ⟨w.heap.size,0,none⟩) 32 32,.slice (some ⟨w.heap.size+1,0,none⟩) 32 32] 73)) (.slice (some ⟨w3.heap.size,0,none⟩) 2 2) [l,r]:=by
  have hcx:Ch (fun _=>False) w3 (w3.drew.alloc (.cells #[.slice (some ⟨w.heap.size,0,none⟩) 32 32,.slice (some ⟨w.heap.size+1,0,none⟩) 32 32] 73)):=(Ch.refl _ _).drew.alloc _;have hrow:=heap_alloc_new w3.drew (.cells #[.slice (some ⟨w.heap.size,0,none⟩) 32 32,.slice (some ⟨w.heap.size+1,0,none⟩) 32 32] 73);rw[hL] at g0;rw[hR] at g1;have b0:=(Bytes.row g0 hl (by unfold maxLen;omega)).An hcx (fun _ _ h=>h);have b1:=(Bytes.row g1 hr (by unfold maxLen;omega)).An hcx (fun _ _ h=>h);refine⟨_,2,rfl,fun i p h=>?_⟩
  match i,h with
  | 0,h =>
   simp at h;subst h;exact⟨w3.heap.size,0,_,rfl,AH hrow rfl,b0,fun _ k hk=>by cases hk;simp;omega⟩
  | 1,h =>
   simp at h;subst h;exact⟨w3.heap.size,0,_,rfl,AH hrow rfl,b1,fun _ k hk=>by cases hk;simp;omega⟩
  | i+2,h=>simp at h
 have hcall:=Pd 1 hp (by simp[hl,hr]) (by simp);rw[show [l,r].flatten=l++r by simp] at hcall;have hs0:∀w0:World,(Instr.sliceAt 24 (.pointer (some ⟨w.heap.size,0,none⟩)) none none none).run Tryz.prog w0=.ok (.slice (some ⟨w.heap.size,0,none⟩) 32 32) w0:=fun w0=>Ca w0 24 32 (by kernel_rfl) (by kernel_rfl) (by kernel_rfl) _ _
 have hs1:∀w0:World,(Instr.sliceAt 85 (.pointer (some ⟨w.heap.size+1,0,none⟩)) none none none).run Tryz.prog w0=.ok (.slice (some ⟨w.heap.size+1,0,none⟩) 32 32) w0:=fun w0=>Ca w0 85 32 (by kernel_rfl) (by kernel_rfl) (by kernel_rfl) _ _
 rw[←hL, ←hR];obtain⟨tx,htx⟩:∃tx,tx=1::(l++r):=⟨_,rfl⟩
 rw[←htx] at hcall ⊢;have HC:=Lib.hid hcall;have G2:=(hIq hs3 hc3)
 have W3:=Lib.hid hw3;clear hcall hp hl hr g0 g1 hs3 hc3 hw3 hL hR htx;go_enter Tryz.func292,Tryz.ntmps292;go_wp2_with fail;rw[←W3.out];go_still_tail 2,(by kernel_rfl)
 show wpList _ _ _ _ _ w3.drew
 go_wp2_with fail;refine HC.out.mono ?_;rintro e w4 ⟨q,rfl,hq,a4⟩;have a5:=(G2.out.2.drew.alloc (.cells #[.slice (some ⟨w.heap.size,0,none⟩) 32 32,.slice (some ⟨w.heap.size+1,0,none⟩) 32 32] 73))
 have H4:=(hIq (hq.base (fun k hk=>Nat.le_trans a5.size (hq.lt k hk).1)) (a5.trans a4 (fun _=>fEq)))
 clear hq a4 a5;go_wp2;go_ret;exact⟨q,rfl,H4.out.1,H4.out.2⟩
theorem Mi (w:World):Calls Tryz.prog 294 #[] w (Jq w [0]):=by
 have hp:FV w (.slice none 0 0) []:=⟨none,0,rfl,fun i p h=>by simp at h⟩
 have hcall:=Pd 0 hp (by simp) (by simp);have HC:=Lib.hid hcall;clear hp hcall;go_enter Tryz.func294,Tryz.ntmps294;go_wp2_with fail;refine HC.out.mono ?_;rintro e w4 ⟨q,rfl,hq,a4⟩;have H4:=(hIq hq a4)
 clear hq a4;go_wp2;go_ret;exact⟨q,rfl,H4.out.1,H4.out.2⟩
theorem Uc {v:Value} {bs:List UInt8} (hb:Bytes w v bs) (hk:bs ≠ []→∀k,v.ownBlock=some k→k<w.heap.size) (hlen:bs.length≤1000000):Calls Tryz.prog 267 #[v] w fun e w'=>e=.returned (.agg (AM (Sha.sum bs)))∧Adds w w':=by
 obtain⟨Z,hZ⟩:∃Z,Z=AM (List.replicate 32 0):=⟨_,rfl⟩
 have hzh:=Hg;rw[←hZ] at hzh;have hZs:Z.size=32:=by rw[hZ];rfl
 have hsl:(Sha.sum bs).length=32:=by rw[Sha.sum,CN,Sha.B8]
 obtain⟨O,hO⟩:∃O,O=AM (Sha.sum bs):=⟨_,rfl⟩
 have hos:O.size=32:=by rw[hO,AN,hsl]
 have ho1:∀v∈O.toList,v.oneCell'=true:=by rw[hO];exact Ah _
 obtain⟨ao,cap,e0,_,_⟩:=hb.form;obtain⟨bl,hbl⟩:∃bl,bl=bs.length:=⟨_,rfl⟩
 rw[←hbl] at e0;subst e0;have HB:=(hIq hb (aIq hk (aIq hlen hbl)))
 have HZ:=(hIq hzh hZs)
 have HO:=(hIq hO (aIq hos ho1))
 clear hb hk hlen hzh hZs hZ hO hos ho1 hsl hbl;go_enter Tryz.func267,Tryz.ntmps267;go_wp2_with (first|fail|((with_reducible show zOq (.alloc 85));refine AI rfl 85 rfl (.agg Z) HZ.out.1 ?_;dsimp only[Value.cells];try simp only[World.size_alloc]));refine(ShaW.I5 _).mono ?_;rintro e w2 ⟨a,ha1,ha2,rfl,hst,a2⟩;have a3:Adds w w2:=((Ch.refl _ _).alloc _).trans a2 (fun _=>fEq);have hz2:=a2.row (heap_alloc_new w (.cells Z 85)) id;have ha1':w.heap.size+1≤a:=by simpa using ha1
 have H2:=(hIq a3 (aIq hz2 (aIq ha1' (aIq ha2 hst))))
 clear a2 a3 hz2 ha1 ha1' ha2 hst;go_wp2_with fail;have hwr:=En H2.out.2.2.2.2 (HB.out.1.An H2.out.1 (fun _ _ h=>h)) (fun h0 k hk=>by have:=HB.out.2.1 h0 k hk;have:=H2.out.2.2.1;omega) (by have:=HB.out.2.2.1;simp;omega);rw[←HB.out.2.2.2,List.nil_append] at hwr;have HW:=Lib.hid hwr;clear hwr;refine HW.out.mono ?_;rintro e w3 ⟨rfl,hst3,c3⟩;have hne:a≠w.heap.size:=by have:=H2.out.2.2.1;omega
 have hsm:=Sw hst3 (by have:=HB.out.2.2.1;omega);have a3:Adds w w3:=H2.out.1.trans c3 (fun k hk=>.inr (by rw[hk];have:=H2.out.2.2.1;omega));have H3:=(hIq (c3.row H2.out.2.1 (fun e=>hne e.symm)) (aIq a3 hsm))
 clear hst3 c3 hsm a3 hne;go_wp2_with fail;refine H3.out.2.2.mono ?_;rintro e w4 ⟨rfl,a4⟩;rw[←HO.out.1];have H4:=(hIq (a4.row H3.out.1 id) (H3.out.2.1.trans a4 (fun _=>fEq)))
 clear a4
 go_wp2_with (first
  | fail
  | ((with_reducible show zOq (.store 85 _ _));refine AE rfl 85 _ _ rfl w.heap.size 0 O rfl rfl H4.out.1 (by rw[CK,HO.out.2.1]) (by rw[HO.out.2.1,HZ.out.2];omega) HO.out.2.2 O (by rw[AK _ _ (by rw[Array.length_toList,Array.length_toList,HO.out.2.1,HZ.out.2])]) ?_))
 exact AU (p:=2) rfl rfl (AG H4.out.1 _) Tryz.underlying85 rfl (by rw[CK,HO.out.2.1]) rfl ⟨by rw[HO.out.1],H4.out.2.setRow (.inr (Nat.le_refl _)) _⟩
end
theorem NF {k:Nat} {a b c d:List UInt8} (ha:a.length=32) (hb:b.length=32) (hc:c.length=32) (hd:d.length=32) (w:World) :
 (Go.binOp BinOp.neq 115 (.agg (Bx k a b c d)) (.agg (Bx k a b c d))).run Tryz.prog w=.ok (.bool false) w:=by
 have h:=Qd (k:=k) ha hb hc hd w;generalize Bx k a b c d=X at h ⊢;rw[run_eql_struct] at h;rw[run_neq_struct];cases hq:(Op.equalIn 10000 115 (.agg X) (.agg X)).run Tryz.prog w with
 | ok v w' =>
  rw[hq] at h;simp only[Result.andThen,Result.ok.injEq,Value.bool.injEq] at h ⊢;exact⟨by rw[h.1];rfl,h.2⟩
 | _=>rw[hq] at h;simp[Result.andThen] at h
theorem DY {k:Nat} {a b c d:List UInt8} (ha:a.length=32) (hb:b.length=32) (hc:c.length=32) (hd:d.length=32) :
 (Bx k a b c d)[0]?=some (.int .u8 (k:Nat))∧(Bx k a b c d).extract 1 (1+32)=AM a∧(Bx k a b c d).extract 33 (33+32)=AM b:=by
 have ex:∀(p q s:List Value) (n m:Nat),p.length=n→q.length=m-n→((p++(q++s)).toArray.extract n m)=q.toArray:=fun p q s n m hp hq=>by
  apply Array.ext';rw[Array.toList_extract,List.extract_eq_take_drop]
  show((p++(q++s)).drop n).take (m-n)=q
  rw[←hp,List.drop_left,hp, ←hq,List.take_left]
 exact⟨rfl,ex [.int .u8 (k:Nat)] (a.map bv) _ 1 33 rfl (by simp[ha]),ex (.int .u8 (k:Nat)::a.map bv) (b.map bv) (c.map bv++d.map bv) 33 65 (by simp[ha]) (by simp[hb])⟩
theorem OV {a b:List UInt8} (ha:a.length=32) (hb:b.length=32) (w:World):Calls Tryz.prog 291 #[.agg (Bx 1 a b Nd.z32 Nd.z32)] w fun e w'=>e=.returned (.int .i64 0)∧Adds w w':=by
 obtain⟨k0,ka,kb⟩:=DY (k:=1) ha hb (c:=Nd.z32) (d:=Nd.z32) rfl rfl;have hneq:=NF (k:=1) ha hb (c:=Nd.z32) (d:=Nd.z32) rfl rfl;obtain⟨O,hO⟩:∃O,O=Bx 1 a b Nd.z32 Nd.z32:=⟨_,rfl⟩
 have hOs:O.size=129∧∀v∈O.toList,v.oneCell'=true:=by rw[hO];exact⟨Dy ha hb rfl rfl,FZ _ _ _ _ _⟩
 have hbt:=GH a b ha hb;obtain⟨K,hK⟩:∃K,K=AM a:=⟨_,rfl⟩
 obtain⟨D,hD⟩:∃D,D=AM b:=⟨_,rfl⟩
 obtain⟨Y,hY⟩:∃Y,Y=CD:=⟨_,rfl⟩
 have hyf:=Bu;have hYs:CD.size=129:=rfl;rw[←hY] at hyf hYs;rw[←hO] at k0 ka kb hneq;rw[←hK] at ka;rw[←hD] at kb;rw[←hO, ←hK, ←hD] at hbt;rw[←hO];have k0':O[0]?=some (.int .u8 1):=k0;have HK:=(hIq ka kb)
 have HO:=(hIq hOs hbt)
 have HY:=(hIq hyf hYs)
 clear ka kb hOs hbt hyf hYs hY hO hK hD k0 ha hb;go_enter Tryz.func291,Tryz.ntmps291
 go_wp2_with (first
  | fail
  | ((with_reducible show zOq (.alloc 115));refine AI rfl 115 rfl (.agg Y) HY.out.1.1 ?_;dsimp only[Value.cells];try simp only[World.size_alloc])
  | ((with_reducible show zOq (.load 24 _));refine AF rfl 24 _ rfl w.heap.size 1 rfl (AJ (heap_alloc_new _ _) _) Tryz.underlying24 rfl AW (by rw[HO.out.1.1];omega) K HK.out.1 ?_)
  | ((with_reducible show zOq (.load 85 _));refine AF rfl 85 _ rfl w.heap.size 33 rfl (AJ (heap_alloc_new _ _) _) Tryz.underlying85 rfl CK (by rw[HO.out.1.1];omega) D HK.out.2 ?_)
  | ((with_reducible show zOq (.build 115 _));refine CB rfl 115 0 1 2 _ _ _ rfl (.int .u8 1) (.agg K) (.agg D) rfl rfl rfl O HO.out.2 ?_)
  | ((with_reducible show zOq (.store 115 _ _));refine AE rfl 115 _ _ rfl (w.heap.size+1) 0 O rfl rfl (by have:=heap_alloc_new (w.alloc (.cells O 115)) (.cells Y 115);simpa using this) (by rw[HY.out.1.2.1,HO.out.1.1]) (by rw[HO.out.1.1,HY.out.2];omega) HO.out.1.2 O (by rw[AK _ _ (by rw[Array.length_toList,Array.length_toList,HO.out.1.1,HY.out.2])]) ?_)
  | ((with_reducible show zOq (.load 115 _));refine AF rfl 115 _ rfl w.heap.size 0 rfl (row_setRow (AJ (heap_alloc_new _ _) _) (by omega) _) Tryz.underlying115 rfl HY.out.1.2.1 (by rw[HO.out.1.1];omega) O (by have:=HO.out.1.1;simp[←this]) ?_)
  | ((with_reducible show zOq (.load 115 _));refine AF rfl 115 _ rfl (w.heap.size+1) 0 rfl (AG (by have:=heap_alloc_new (w.alloc (.cells O 115)) (.cells Y 115);simpa using this) _) Tryz.underlying115 rfl HY.out.1.2.1 (by rw[HO.out.1.1];omega) O (by have:=HO.out.1.1;simp[←this]) ?_))
 go_ret;exact⟨rfl,(((Ch.refl _ _).alloc _).alloc _).setRow (.inr (by omega)) _⟩
theorem Qw (w:World):Calls Tryz.prog 291 #[.agg (Bx 0 Nd.z32 Nd.z32 Nd.z32 Nd.z32)] w fun e w'=>e=.returned (.int .i64 0)∧Adds w w':=by
 obtain⟨k0,_,_⟩:=DY (k:=0) (a:=Nd.z32) (b:=Nd.z32) (c:=Nd.z32) (d:=Nd.z32) rfl rfl rfl rfl;have hneq:=NF (k:=0) (a:=Nd.z32) (b:=Nd.z32) (c:=Nd.z32) (d:=Nd.z32) rfl rfl rfl rfl;have hyf:=Bu;have hYs:CD.size=129:=rfl;rw[Mm] at hyf hYs;obtain⟨O,hO⟩:∃O,O=Bx 0 Nd.z32 Nd.z32 Nd.z32 Nd.z32:=⟨_,rfl⟩
 rw[←hO] at k0 hneq hyf hYs;rw[←hO];have k0':O[0]?=some (.int .u8 0):=k0;have HY:=(hIq hyf hYs)
 clear hyf hYs hO k0;go_enter Tryz.func291,Tryz.ntmps291
 go_wp2_with (first
  | fail
  | ((with_reducible show zOq (.alloc 115));refine AI rfl 115 rfl (.agg O) HY.out.1.1 ?_;dsimp only[Value.cells];try simp only[World.size_alloc])
  | ((with_reducible show zOq (.load 115 _));refine AF rfl 115 _ rfl w.heap.size 0 rfl (AJ (heap_alloc_new _ _) _) Tryz.underlying115 rfl HY.out.1.2.1 (by rw[HY.out.2];omega) O (by have:=HY.out.2;simp[←this]) ?_)
  | ((with_reducible show zOq (.load 115 _));refine AF rfl 115 _ rfl (w.heap.size+1) 0 rfl (by have:=heap_alloc_new (w.alloc (.cells O 115)) (.cells O 115);simpa using this) Tryz.underlying115 rfl HY.out.1.2.1 (by rw[HY.out.2];omega) O (by have:=HY.out.2;simp[←this]) ?_))
 go_ret;exact⟨rfl,((Ch.refl _ _).alloc _).alloc _⟩
def LR:Tr→List UInt8
 | .leaf k v=>1::(k++Tag.Aw v)
 | _ => [0]
theorem Q2 {t:Tr} (ht:t.isNode=false):Sha.sum (LR t)=t.dig:=by
 cases t with
 | nil=>rfl
 | leaf k v =>
  show Sha.sum (1::(k++Tag.Aw v))=Sha.sum (1 :: [k,Tag.Aw v].flatten)
  rw[show [k,Tag.Aw v].flatten=k++Tag.Aw v by simp]
 | node l r=>cases ht
def Mc (w:World) (bs:List UInt8) (e:Ending) (w':World):Prop:=∃q,e=.returned (.tuple #[q,.int .i64 0])∧w'.ownsRow w.heap.size 5 1 q bs.length (bs.map bv)∧Adds w w'
theorem Q8 {t:Tr} (ht:t.isNode=false) (hk:∀e∈t.ents,e.1.length=32) (w:World):Calls Tryz.prog 266 #[.agg (EC t)] w (Mc w (LR t)):=by
 cases t with
 | node l r=>cases ht
 | nil =>
  show Calls Tryz.prog 266 #[.agg (Bx 0 Nd.z32 Nd.z32 Nd.z32 Nd.z32)] w (Mc w [0])
  obtain⟨k0,_,_⟩:=DY (k:=0) (a:=Nd.z32) (b:=Nd.z32) (c:=Nd.z32) (d:=Nd.z32) rfl rfl rfl rfl;have hch:=fun w=>Qw w
  have hyf:=Bu;have hYs:CD.size=129:=rfl;rw[Mm] at hyf hYs;obtain⟨O,hO⟩:∃O,O=Bx 0 Nd.z32 Nd.z32 Nd.z32 Nd.z32:=⟨_,rfl⟩
  rw[←hO] at k0 hch hyf hYs;rw[←hO];have k0':O[0]?=some (.int .u8 0):=k0;have HY:=(hIq hyf (aIq hYs hch))
  clear hyf hYs hO k0 hch hk ht;go_enter Tryz.func266,Tryz.ntmps266
  go_wp2_with (first
   | fail
   | ((with_reducible show zOq (.load 115 _));refine AF rfl 115 _ rfl w.heap.size 0 rfl (heap_alloc_new _ _) Tryz.underlying115 rfl HY.out.1.2.1 (by rw[HY.out.2.1];omega) O (by have:=HY.out.2.1;simp[←this]) ?_))
  refine(HY.out.2.2 _).mono ?_;rintro e w1 ⟨rfl,a1⟩;have c0:=AH (a1.row (heap_alloc_new w (.cells O 115)) id) k0';have A1:=Lib.hid (((Ch.refl (fun _=>False) w).alloc (.cells O 115)).trans a1 (fun _=>fEq));clear a1;go_wp2_with fail;refine(Mi w1).mono ?_;rintro e w2 ⟨q,rfl,hq,a2⟩;have H2:=(hIq hq a2)
  clear hq a2;go_wp2;go_ret2;exact⟨q,rfl,H2.out.1.base (fun k hk=>Nat.le_trans A1.out.size (H2.out.1.lt k hk).1),A1.out.trans H2.out.2 (fun _=>fEq)⟩
 | leaf a v =>
  have ha:a.length=32:=hk (a,v) (List.mem_singleton.2 rfl);have hb:(Tag.Aw v).length=32:=Tag.AV _ _;obtain⟨b,hbe⟩:∃b,b=Tag.Aw v:=⟨_,rfl⟩
  show Calls Tryz.prog 266 #[.agg (Bx 1 a (Tag.Aw v) Nd.z32 Nd.z32)] w (Mc w (1::(a++Tag.Aw v)))
  rw[←hbe] at hb ⊢;obtain⟨k0,ka,kb⟩:=DY (k:=1) ha hb (c:=Nd.z32) (d:=Nd.z32) rfl rfl;have hch:=fun w=>OV ha hb w
  have hlt:=fun w=>Ns a b ha hb w
  have hOs:=Dy (k:=1) ha hb (c:=Nd.z32) (d:=Nd.z32) rfl rfl;obtain⟨O,hO⟩:∃O,O=Bx 1 a b Nd.z32 Nd.z32:=⟨_,rfl⟩
  obtain⟨K,hK⟩:∃K,K=AM a:=⟨_,rfl⟩
  obtain⟨D,hD⟩:∃D,D=AM b:=⟨_,rfl⟩
  obtain⟨tx,htx⟩:∃tx,tx=1::(a++b):=⟨_,rfl⟩
  rw[←hO] at k0 ka kb hch hOs;rw[←hK] at ka hlt;rw[←hD] at kb hlt;rw[←htx] at hlt;rw[←hO, ←htx];have k0':O[0]?=some (.int .u8 1):=k0;have HY:=(hIq hOs (aIq hch (aIq hlt (aIq ka (aIq kb Bu.2.1)))))
  clear hOs hO k0 hch hk ht hlt ka kb hK hD htx hbe ha hb;go_enter Tryz.func266,Tryz.ntmps266
  go_wp2_with (first
   | fail
   | ((with_reducible show zOq (.load 115 _));refine AF rfl 115 _ rfl w.heap.size 0 rfl (heap_alloc_new _ _) Tryz.underlying115 rfl HY.out.2.2.2.2.2 (by rw[HY.out.1];omega) O (by have:=HY.out.1;simp[←this]) ?_))
  refine(HY.out.2.1 _).mono ?_;rintro e w1 ⟨rfl,a1⟩;have r1:=a1.row (heap_alloc_new w (.cells O 115)) id;have c0:=AH r1 k0';have A1:=(hIq (((Ch.refl (fun _=>False) w).alloc (.cells O 115)).trans a1 (fun _=>fEq)) r1)
  clear a1 r1
  go_wp2_with (first
   | fail
   | ((with_reducible show zOq (.load 24 _));refine AF rfl 24 _ rfl w.heap.size 1 rfl A1.out.2 Tryz.underlying24 rfl AW (by rw[HY.out.1];omega) K HY.out.2.2.2.1 ?_)
   | ((with_reducible show zOq (.load 85 _));refine AF rfl 85 _ rfl w.heap.size 33 rfl A1.out.2 Tryz.underlying85 rfl CK (by rw[HY.out.1];omega) D HY.out.2.2.2.2.1 ?_))
  refine(HY.out.2.2.1 w1).mono ?_;rintro e w2 ⟨q,rfl,hq,a2⟩;have H2:=(hIq hq a2)
  clear hq a2;go_wp2;go_ret2;exact⟨q,rfl,H2.out.1.base (fun k hk=>Nat.le_trans A1.out.1.size (H2.out.1.lt k hk).1),A1.out.1.trans H2.out.2 (fun _=>fEq)⟩
theorem DT {t:Tr} (ht:t.isNode=false) (hk:∀e∈t.ents,e.1.length=32):(EC t).size=129∧∀v∈(EC t).toList,v.oneCell'=true:=by
 cases t with
 | node l r=>cases ht
 | nil=>exact⟨Dy rfl rfl rfl rfl,FZ _ _ _ _ _⟩
 | leaf a v=>exact⟨Dy (hk (a,v) (List.mem_singleton.2 rfl)) (Tag.AV _ _) rfl rfl,FZ _ _ _ _ _⟩
theorem Q4 {t:Tr} (hk:∀e∈t.ents,e.1.length=32):(LR t).length≤65:=by
 cases t with
 | node l r=>exact Nat.le_of_ble_eq_true rfl
 | nil=>exact Nat.le_of_ble_eq_true rfl
 | leaf a v =>
  have h1:=hk (a,v) (List.mem_singleton.2 rfl);have h2:(Tag.Aw v).length=32:=Tag.AV _ _
  show(1::(a++Tag.Aw v)).length≤65
  rw[List.length_cons,List.length_append,h2];have h3:a.length=32:=h1;omega
theorem OZ {t:Tr} (ht:t.isNode=false) (hk:∀e∈t.ents,e.1.length=32) (w:World):Calls Tryz.prog 216 #[.agg (EC t)] w fun e w'=>e=.returned (.tuple #[.agg (AM t.dig),.int .i64 0])∧Adds w w':=by
 obtain⟨Z,hZ⟩:∃Z,Z=AM (List.replicate 32 0):=⟨_,rfl⟩
 have hzh:=Hg;rw[←hZ] at hzh;have hZs:Z.size=32:=by rw[hZ];rfl
 obtain⟨hNs,_⟩:=DT ht hk;have hen:=fun w=>Q8 ht hk w
 have htl:=Q4 hk;have hdg:=Q2 ht;have hsl:(Sha.sum (LR t)).length=32:=by rw[Sha.sum,CN,Sha.B8]
 obtain⟨N,hN⟩:∃N,N=EC t:=⟨_,rfl⟩
 obtain⟨O,hO⟩:∃O,O=AM t.dig:=⟨_,rfl⟩
 have hos:O.size=32:=by rw[hO,AN, ←hdg,hsl]
 have ho1:∀v∈O.toList,v.oneCell'=true:=by rw[hO];exact Ah _
 have hsum:∀ {w:World} {v:Value},Bytes w v (LR t)→(∀k,v.ownBlock=some k→k<w.heap.size)→Calls Tryz.prog 267 #[v] w fun e w'=>e=.returned (.agg O)∧Adds w w':=fun hb hk=>by
  rw[hO, ←hdg];exact Uc hb (fun _=>hk) (by omega)
 rw[←hN] at hNs hen;rw[←hN, ←hO];have HN:=(hIq hNs (aIq hen (aIq htl (aIq (@hsum) Bu.2.1))))
 have HZ:=(hIq hzh hZs)
 have HO:=(hIq hos ho1)
 clear hzh hZs hZ hNs hen htl hdg hsl hN hO hos ho1 hsum hk ht;go_enter Tryz.func216,Tryz.ntmps216
 go_wp2_with (first
  | fail
  | ((with_reducible show zOq (.alloc 85));refine AI rfl 85 rfl (.agg Z) HZ.out.1 ?_;dsimp only[Value.cells];try simp only[World.size_alloc])
  | ((with_reducible show zOq (.load 115 _));refine AF rfl 115 _ rfl w.heap.size 0 rfl (AJ (heap_alloc_new _ _) _) Tryz.underlying115 rfl HN.out.2.2.2.2 (by rw[HN.out.1];omega) N (by have:=HN.out.1;simp[←this]) ?_))
 refine(HN.out.2.1 _).mono ?_;rintro e w1 ⟨q,rfl,hq,a1⟩;obtain⟨hb,hbk⟩:=Qy hq (by have:=HN.out.2.2.1;omega);have hz1:=a1.row (by have:=heap_alloc_new (w.alloc (.cells N 115)) (.cells Z 85);simpa using this:((w.alloc (.cells N 115)).alloc (.cells Z 85)).heap[w.heap.size+1]?=some (.cells Z 85 (0,0))) id;have hsm:=HN.out.2.2.2.1 hb (fun k hk=>(hbk k hk).2);have H1:=(hIq ((((Ch.refl (fun _=>False) w).alloc (.cells N 115)).alloc (.cells Z 85)).trans a1 (fun _=>fEq)) (aIq hz1 hsm))
 obtain⟨qo,qc,rfl⟩:=As hq;obtain⟨tl,htl⟩:∃tl,tl=(LR t).length:=⟨_,rfl⟩
 rw[←htl] at H1 ⊢;clear hq a1 hb hbk hz1 hsm htl;go_wp2_with fail;refine H1.out.2.2.mono ?_;rintro e w2 ⟨rfl,a2⟩;have H2:=(hIq (H1.out.1.trans a2 (fun _=>fEq)) (a2.row H1.out.2.1 id))
 clear a2
 go_wp2_with (first
  | fail
  | ((with_reducible show zOq (.store 85 _ _));refine AE rfl 85 _ _ rfl (w.heap.size+1) 0 O rfl rfl H2.out.2 (by rw[CK,HO.out.1]) (by rw[HO.out.1,HZ.out.2];omega) HO.out.2 O (by rw[AK _ _ (by rw[Array.length_toList,Array.length_toList,HO.out.1,HZ.out.2])]) ?_))
 exact Ak (p:=2) (u:=3) rfl rfl (AG H2.out.2 _) Tryz.underlying85 rfl (by rw[CK,HO.out.1]) rfl ⟨rfl,H2.out.1.setRow (.inr (by omega)) _⟩
end Go.Proofs.YtooijgcildbnlaaGreat.Store
namespace Go.Proofs.YtooijgcildbnlaaGreat.Store
open Go.RowKit Go.Sort Go.Proofs.YtooijgcildbnlaaGreat.ShaW Go.Proofs.YtooijgcildbnlaaGreat.Path Go.Proofs.YtooijgcildbnlaaGreat.BE
section
variable {w w' : World} {s : Nat} {F : Nat→Prop} {σ : AD Nd}
theorem Ot (h:At w s F σ) {n:Int} (hk:(nd σ n).kind=0):Calls Tryz.prog 215 #[.pointer (some ⟨s,0,none⟩),.int .i64 n] w fun e w'=>e=.returned (.agg CD)∧Adds w w':=by
 have hok:=h.ok n;have hg:=fun w1 (hc:Adds w w1)=>Cc (h.adds hc) n
 obtain⟨N,Z,hN,hn,hz⟩:=told h n;rw[←hN] at hg;have k0:N[32]?=some (.int .u8 0):=by rw[hN,Nd.Bc hok,hk];rfl
 obtain⟨Y,hY⟩:∃Y,Y=CD:=⟨_,rfl⟩
 have hyf:=Bu;have hy1:=Gz;have hYs:CD.size=129:=rfl;rw[←hY] at hyf hy1 hYs ⊢;have HG:=Lib.hid hg;have HN:=Lib.hid hn;have HZ:=Lib.hid hz;have HY:=(hIq hyf (aIq hYs hy1))
 clear hok hg hN hn hz h hY hyf hYs hy1 hk;go_enter Tryz.func215,Tryz.ntmps215;go_wp2_with (first|fail|((with_reducible show zOq (.alloc 115));refine AI rfl 115 rfl (.agg Y) HY.out.1.1 ?_;dsimp only[Value.cells];try simp only[World.size_alloc]));refine(HG.out _ ((Ch.refl _ _).alloc _)).mono ?_;rintro e w1 ⟨rfl,hc1⟩;have hy1:=hc1.row (heap_alloc_new w (.cells Y 115)) id;have c0:=AH (AG (heap_alloc_new w1 (.cells Z 159)) N) k0;have C1:=Lib.hid (((Ch.refl (fun _=>False) w).alloc (.cells Y 115)).trans hc1 (fun _=>fEq));have hlt:=Ao hy1;have HY1:=Lib.hid hy1;clear hc1 hy1 k0
 go_wp2_with (first
  | fail
  | ((with_reducible show zOq (.alloc 159));refine AI rfl 159 rfl (.agg Z) HZ.out.1 ?_;dsimp only[Value.cells];try simp only[World.size_alloc])
  | ((with_reducible show zOq (.store 159 (.tmp 5) _));go_must (refine AE rfl 159 _ _ rfl w1.heap.size 0 N rfl rfl (heap_alloc_new _ _) (by rw[BO,HN.out.1]) (by rw[HN.out.1,HZ.out.2];omega) HN.out.2 N (by rw[AK _ _ (by rw[Array.length_toList,Array.length_toList,HN.out.1,HZ.out.2])]) ?_))
  | ((with_reducible show zOq (.build 115 _));refine Bw rfl 115 rfl Y HY.out.1.2.2 ?_)
  | ((with_reducible show zOq (.store 115 _ _));refine AE rfl 115 _ _ rfl w.heap.size 0 Y rfl rfl (row_setRow (AJ HY1.out _) (by omega) _) (by rw[HY.out.1.2.1,HY.out.2.1]) (by omega) HY.out.2.2 Y (by rw[AK _ _ rfl]) ?_))
 have hws:=C1.out.size;exact AU (p:=4) rfl rfl (AG (row_setRow (AJ HY1.out _) (by omega) _) _) Tryz.underlying115 rfl (by rw[HY.out.1.2.1,HY.out.2.1]) rfl ⟨rfl,((C1.out.alloc _).setRow (.inr hws) _).setRow (.inr (Nat.le_refl _)) _⟩
theorem Ox (h:At w s F σ) {n:Int} (hk:(nd σ n).kind=1):Calls Tryz.prog 215 #[.pointer (some ⟨s,0,none⟩),.int .i64 n] w fun e w'=>e=.returned (.agg (Bx 1 (nd σ n).key (nd σ n).hash Nd.z32 Nd.z32))∧Adds w w':=by
 have hok:=h.ok n;have hg:=fun w1 (hc:Adds w w1)=>Cc (h.adds hc) n
 obtain⟨N,Z,hN,hn,hz⟩:=told h n;rw[←hN] at hg;have k0:N[32]?=some (.int .u8 1):=by rw[hN,Nd.Bc hok,hk];rfl
 have kk:N.extract 34 (34+32)=AM (nd σ n).key:=by rw[hN];exact Nd.BW hok
 have kh:N.extract 67 (67+32)=AM (nd σ n).hash:=by rw[hN];exact Nd.UY hok
 obtain⟨Y,hY⟩:∃Y,Y=CD:=⟨_,rfl⟩
 have hyf:=Bu;have hYs:CD.size=129:=rfl;rw[←hY] at hyf hYs;obtain⟨O,hO⟩:∃O,O=Bx 1 (nd σ n).key (nd σ n).hash Nd.z32 Nd.z32:=⟨_,rfl⟩
 have hOs:O.size=129∧∀v∈O.toList,v.oneCell'=true:=by rw[hO];exact⟨Dy hok.key hok.hash rfl rfl,FZ _ _ _ _ _⟩
 have hbt:=GH (nd σ n).key (nd σ n).hash hok.key hok.hash;obtain⟨K,hK⟩:∃K,K=AM (nd σ n).key:=⟨_,rfl⟩
 obtain⟨D,hD⟩:∃D,D=AM (nd σ n).hash:=⟨_,rfl⟩
 rw[←hK] at kk;rw[←hD] at kh;rw[←hO, ←hK, ←hD] at hbt;rw[←hO];have HG:=Lib.hid hg;have HK:=(hIq kk kh)
 have HN:=Lib.hid hn;have HZ:=Lib.hid hz;have HY:=(hIq hyf hYs)
 have HO:=(hIq hOs hbt)
 clear hok hg hN hn hz h hY hyf hYs hk hOs hbt hO hK hD kk kh;go_enter Tryz.func215,Tryz.ntmps215;go_wp2_with (first|fail|((with_reducible show zOq (.alloc 115));refine AI rfl 115 rfl (.agg Y) HY.out.1.1 ?_;dsimp only[Value.cells];try simp only[World.size_alloc]));refine(HG.out _ ((Ch.refl _ _).alloc _)).mono ?_;rintro e w1 ⟨rfl,hc1⟩;have hy1:=hc1.row (heap_alloc_new w (.cells Y 115)) id;have c0:=AH (AG (heap_alloc_new w1 (.cells Z 159)) N) k0;have C1:=Lib.hid (((Ch.refl (fun _=>False) w).alloc (.cells Y 115)).trans hc1 (fun _=>fEq));have hlt:=Ao hy1;have HY1:=Lib.hid hy1;clear hc1 hy1 k0
 go_wp2_with (first
  | fail
  | ((with_reducible show zOq (.alloc 159));refine AI rfl 159 rfl (.agg Z) HZ.out.1 ?_;dsimp only[Value.cells];try simp only[World.size_alloc])
  | ((with_reducible show zOq (.store 159 (.tmp 5) _));go_must (refine AE rfl 159 _ _ rfl w1.heap.size 0 N rfl rfl (heap_alloc_new _ _) (by rw[BO,HN.out.1]) (by rw[HN.out.1,HZ.out.2];omega) HN.out.2 N (by rw[AK _ _ (by rw[Array.length_toList,Array.length_toList,HN.out.1,HZ.out.2])]) ?_))
  | ((with_reducible show zOq (.load 24 _));refine AF rfl 24 _ rfl w1.heap.size 34 rfl (AG (heap_alloc_new _ _) _) Tryz.underlying24 rfl AW (by rw[HN.out.1];omega) K HK.out.1 ?_)
  | ((with_reducible show zOq (.load 85 _));refine AF rfl 85 _ rfl w1.heap.size 67 rfl (AG (heap_alloc_new _ _) _) Tryz.underlying85 rfl CK (by rw[HN.out.1];omega) D HK.out.2 ?_)
  | ((with_reducible show zOq (.build 115 _));refine CB rfl 115 0 1 2 _ _ _ rfl (.int .u8 1) (.agg K) (.agg D) rfl rfl rfl O HO.out.2 ?_)
  | ((with_reducible show zOq (.store 115 _ _));refine AE rfl 115 _ _ rfl w.heap.size 0 O rfl rfl (row_setRow (AJ HY1.out _) (by omega) _) (by rw[HY.out.1.2.1,HO.out.1.1]) (by rw[HO.out.1.1,HY.out.2];omega) HO.out.1.2 O (by rw[AK _ _ (by rw[Array.length_toList,Array.length_toList,HO.out.1.1,HY.out.2])]) ?_))
 have hws:=C1.out.size;exact AU (p:=4) rfl rfl (AG (row_setRow (AJ HY1.out _) (by omega) _) _) Tryz.underlying115 rfl (by rw[HY.out.1.2.1,HO.out.1.1]) rfl ⟨rfl,((C1.out.alloc _).setRow (.inr hws) _).setRow (.inr (Nat.le_refl _)) _⟩
theorem N6 (h:At w s F σ) {n:Int} (hk:(nd σ n).kind=2):Calls Tryz.prog 215 #[.pointer (some ⟨s,0,none⟩),.int .i64 n] w fun e w'=>e=.returned (.agg (Bx 2 Nd.z32 Nd.z32 (Ar σ (nd σ n).left) (Ar σ (nd σ n).right)))∧Adds w w':=by
 have hok:=h.ok n;have hg:=fun w1 (hc:Adds w w1)=>Cc (h.adds hc) n
 obtain⟨N,Z,hN,hn,hz⟩:=told h n;rw[←hN] at hg;have k0:N[32]?=some (.int .u8 2):=by rw[hN,Nd.Bc hok,hk];rfl
 have kl:N[99]?=some (.int .i64 (nd σ n).left):=by rw[hN,Nd.Mr hok]
 have kr:N[100]?=some (.int .i64 (nd σ n).right):=by rw[hN,Nd.Kf hok]
 obtain⟨lf,hlf⟩:∃lf,lf=(nd σ n).left:=⟨_,rfl⟩
 obtain⟨rg,hrg⟩:∃rg,rg=(nd σ n).right:=⟨_,rfl⟩
 rw[←hlf] at kl ⊢;rw[←hrg] at kr ⊢;obtain⟨Y,hY⟩:∃Y,Y=CD:=⟨_,rfl⟩
 have hyf:=Bu;have hYs:CD.size=129:=rfl;rw[←hY] at hyf hYs;obtain⟨O,hO⟩:∃O,O=Bx 2 Nd.z32 Nd.z32 (Ar σ lf) (Ar σ rg):=⟨_,rfl⟩
 have hOs:O.size=129∧∀v∈O.toList,v.oneCell'=true:=by rw[hO];exact⟨Dy rfl rfl (h.AV _) (h.AV _),FZ _ _ _ _ _⟩
 have hbt:=I7 (Ar σ lf) (Ar σ rg) (h.AV _) (h.AV _);obtain⟨A,hA⟩:∃A,A=AM (Ar σ lf):=⟨_,rfl⟩
 obtain⟨D,hD⟩:∃D,D=AM (Ar σ rg):=⟨_,rfl⟩
 rw[←hO, ←hA, ←hD] at hbt
 have hl:∀w1,Adds w w1→Calls Tryz.prog 100 #[.pointer (some ⟨s,0,none⟩),.int .i64 lf] w1 fun e w'=>e=.returned (.agg A)∧Adds w1 w':=fun w1 a=>by
  rw[hA];exact Ea (h.adds a) lf
 have hr:∀w1,Adds w w1→Calls Tryz.prog 100 #[.pointer (some ⟨s,0,none⟩),.int .i64 rg] w1 fun e w'=>e=.returned (.agg D)∧Adds w1 w':=fun w1 a=>by
  rw[hD];exact Ea (h.adds a) rg
 rw[←hO];have HG:=Lib.hid hg;have HN:=Lib.hid hn;have HK:=(hIq kl kr)
 have HZ:=Lib.hid hz;have HY:=(hIq hyf hYs)
 have HO:=(hIq hOs hbt)
 have HV:=(hIq hl hr)
 clear hok hg hN hn hz h hY hyf hYs hk hOs hbt hO hA hD kl kr hlf hrg hl hr;go_enter Tryz.func215,Tryz.ntmps215;go_wp2_with (first|fail|((with_reducible show zOq (.alloc 115));refine AI rfl 115 rfl (.agg Y) HY.out.1.1 ?_;dsimp only[Value.cells];try simp only[World.size_alloc]));refine(HG.out _ ((Ch.refl _ _).alloc _)).mono ?_;rintro e w1 ⟨rfl,hc1⟩;have hyr:=hc1.row (heap_alloc_new w (.cells Y 115)) id;have c0:=AH (AG (heap_alloc_new w1 (.cells Z 159)) N) k0;have C1:=Lib.hid (((Ch.refl (fun _=>False) w).alloc (.cells Y 115)).trans hc1 (fun _=>fEq));have hlt:=Ao hyr;have HY1:=Lib.hid hyr;clear hc1 hyr k0
 go_upto_region 6 with(first
  | fail
  | ((with_reducible show zOq (.alloc 159));refine AI rfl 159 rfl (.agg Z) HZ.out.1 ?_;dsimp only[Value.cells];try simp only[World.size_alloc])
  | ((with_reducible show zOq (.store 159 (.tmp 5) _));go_must (refine AE rfl 159 _ _ rfl w1.heap.size 0 N rfl rfl (heap_alloc_new _ _) (by rw[BO,HN.out.1]) (by rw[HN.out.1,HZ.out.2];omega) HN.out.2 N (by rw[AK _ _ (by rw[Array.length_toList,Array.length_toList,HN.out.1,HZ.out.2])]) ?_)))
 have r1:((w1.alloc (.cells Z 159)).setRow w1.heap.size N).heap[w1.heap.size]?=some (.cells N 159 (0,0)):=AG (heap_alloc_new _ _) _;have r2:((w1.alloc (.cells Z 159)).setRow w1.heap.size N).heap[w.heap.size]?=some (.cells Y 115 (0,0)):=row_setRow (AJ HY1.out _) (by omega) _;have a2:Adds w ((w1.alloc (.cells Z 159)).setRow w1.heap.size N):=(C1.out.alloc _).setRow (.inr C1.out.size) _;obtain⟨w2,hw2⟩:∃w2,w2=(w1.alloc (.cells Z 159)).setRow w1.heap.size N:=⟨_,rfl⟩
 obtain⟨B,hB⟩:∃B,B=w1.heap.size:=⟨_,rfl⟩
 rw[←hw2] at r1 r2 a2 ⊢;rw[←hB] at r1 ⊢;have HW:=(hIq r1 (aIq r2 a2))
 clear r1 r2 a2 hw2 c0 hlt hB;refine AO (fun wz=>wz.heap[B]?=some (.cells N 159 (0,0))∧wz.heap[w.heap.size]?=some (.cells Y 115 (0,0))∧Adds w wz) 8 [(0,false),(1,false),(2,false),(4,false),(5,false),(6,false),(3,true),(7,true)] (by kernel_rfl) (by kernel_rfl) ?_ ?_
 · exact⟨AP HW.out.1,AP HW.out.2.1,HW.out.2.2.drew⟩
 iterate 2
  refine plan_look rfl rfl (fun w0 hS=>(by clear hS;go_simp;try rfl)) ?_;simp only[Act.put,nAq,nBq,nCq]
 refine plan_look (v:=.int .i64 lf) rfl rfl (fun w0 hS=>(by have c:=AH hS.1 HK.out.1;clear hS;go_simp;try rfl)) ?_;simp only[Act.put,nAq,nBq,nCq]
 iterate 2
  refine plan_look rfl rfl (fun w0 hS=>(by clear hS;go_simp;try rfl)) ?_;simp only[Act.put,nAq,nBq,nCq]
 refine plan_look (v:=.int .i64 rg) rfl rfl (fun w0 hS=>(by have c:=AH hS.1 HK.out.2;clear hS;go_simp;try rfl)) ?_;simp only[Act.put,nAq,nBq,nCq];refine Aa rfl ?_;go_wp2_with fail;refine(HV.out.1 _ HW.out.2.2.drew).mono ?_;rintro e wa ⟨rfl,aa⟩;have AA:=(hIq (aa.row (AP HW.out.1) id) (aIq (aa.row (AP HW.out.2.1) id) (HW.out.2.2.drew.trans aa (fun _=>fEq))))
 clear aa;dsimp only;go_step;refine wpList_nil ?_;change _∧_;refine⟨AA.out,?_⟩;refine Aa rfl ?_;go_wp2_with fail;refine(HV.out.2 _ AA.out.2.2).mono ?_;rintro e wb ⟨rfl,ab⟩;have AB:=(hIq (ab.row AA.out.1 id) (aIq (ab.row AA.out.2.1 id) (AA.out.2.2.trans ab (fun _=>fEq))))
 clear ab;dsimp only;go_step;refine wpList_nil ?_;change _∧_;refine⟨AB.out,?_⟩;refine Ad ?_;simp only[List.drop_succ_cons,List.drop_zero];have hlt:=Ao AB.out.2.1
 go_wp2_with (first
  | fail
  | ((with_reducible show zOq (.build 115 _));refine CB rfl 115 0 3 4 _ _ _ rfl (.int .u8 2) (.agg A) (.agg D) rfl rfl rfl O HO.out.2 ?_)
  | ((with_reducible show zOq (.store 115 _ _));refine AE rfl 115 _ _ rfl w.heap.size 0 O rfl rfl AB.out.2.1 (by rw[HY.out.1.2.1,HO.out.1.1]) (by rw[HO.out.1.1,HY.out.2];omega) HO.out.1.2 O (by rw[AK _ _ (by rw[Array.length_toList,Array.length_toList,HO.out.1.1,HY.out.2])]) ?_))
 refine NoPanic.normal ?_;go_wp2;exact AU (p:=4) rfl rfl (AG AB.out.2.1 _) Tryz.underlying115 rfl (by rw[HY.out.1.2.1,HO.out.1.1]) rfl ⟨rfl,AB.out.2.2.setRow (.inr (Nat.le_refl _)) _⟩
theorem Ue (h:At w s F σ) (G:Good σ) (n:Int):Calls Tryz.prog 215 #[.pointer (some ⟨s,0,none⟩),.int .i64 n] w fun e w'=>e=.returned (.agg (J1 σ n))∧Adds w w':=by
 unfold J1;by_cases h1:(nd σ n).kind=1
 · rw[if_pos h1]
   exact Ox h h1
 rw[if_neg h1];by_cases h2:(nd σ n).kind=2
 · rw[if_pos h2]
   exact N6 h h2
 rw[if_neg h2];refine Ot h ?_;cases hs:σ.get? n with
 | none=>rw[Ie hs];rfl
 | some x =>
  rw[Bk hs] at h1 h2;exact absurd (G.fit.leaf (Bq hs) h2).1 h1
end
end Go.Proofs.YtooijgcildbnlaaGreat.Store
namespace Go.Proofs.YtooijgcildbnlaaGreat.BE
open Go.RowKit Go.Proofs.YtooijgcildbnlaaGreat.ShaW Go.Proofs.YtooijgcildbnlaaGreat.Path Go.Proofs.YtooijgcildbnlaaGreat.Store Go.Deep Go.ChangeShapes Go.WideShapes Go.ChangeAt
def Dl {α:Type} (m:Nat) (cells:α→Array Value) (w:World) (ao:Option Addr) (l:List α):Prop:=∀i x,l[i]?=some x→∃(g off:Nat),ao=some ⟨g,off,none⟩∧CO w g (off+i*m) (cells x)
theorem Dl.An {α:Type} {m:Nat} {cells:α→Array Value} {F:Nat→Prop} {w w':World} {ao:Option Addr} {l:List α} (h:Dl m cells w ao l) (hc:Ch F w w') (hF:∀k,F k→w.heap.size≤k):Dl m cells w' ao l:=fun i x hi=>by
 obtain⟨g,off,h1,h3⟩:=h i x hi;refine⟨g,off,h1,h3.An hc (fun hf=>?_)⟩;obtain⟨cur,t,fr,hr,_⟩:=h3;have:=Ao hr;have:=hF g hf;omega
section
variable {H : Type} {enc : TypeId×Value→H} {W : World} {base : Nat}
theorem TC {α:Type} [Inhabited α] {m:Nat} (hm0:0<m) {good:α→Prop} {cells:α→Array Value} {st T:TypeId} (hst:Tryz.prog.underlying st=some (.slice T)) (hct:Tryz.prog.cellsOf T=m)
 (read:∀ {n:Nat} {cs:List Value} {y:DataW H×List MemPlace},DataW.trod enc Tryz.prog W base (fun _=>true) true n T cs=some y→∃x:α,good x∧cs=(cells x).toList)
 {n:Nat} {cs:List Value} {y:DataW H×List MemPlace} (h:DataW.trod enc Tryz.prog W base (fun _=>true) true n st cs=some y) :
 ∃(ao:Option Addr) (l:List α) (cap:Nat),cs = [.slice ao l.length cap]∧(∀x∈l,good x)∧Dl m cells W ao l:=by
 rcases open_slice hst h with⟨h0,_⟩|⟨a,len,cap,mm,n,D,Pl,hcs,hb,hl,hc,hmm,hx,hi⟩
 · exact⟨none,[],0,h0,fun x hx=>(by cases hx),fun i x hi=>(by simp at hi)⟩
 have one:∀i,i<len→∃x:α,good x∧∃g off,a=⟨g,off,none⟩∧CO W g (off+i*m) (cells x):=fun i hil=>by
  obtain⟨cs',h1,h2⟩:=hi i (by rw[hmm];simp only[if_true];exact Nat.lt_of_lt_of_le hil hl);rw[hct] at h1;obtain⟨x,hg,rfl⟩:=read h2;obtain⟨_,hlen,h3⟩:=World.cells?_some h1;obtain⟨g,off,spot⟩:=a;cases spot with
  | none =>
   refine⟨x,hg,g,off,rfl,?_⟩;have:=CO.Is (w:=W) (g:=g) (o:=off+i*m) (m:=m) (cs:=(cells x).toList) hm0 hlen (fun j hj=>by have:=h3 j hj;simpa only[add_plain] using this);exact this
  | some s =>
   exfalso;obtain⟨cs',h1,h2⟩:=hi 0 (by rw[hmm];simp only[if_true];exact Nat.lt_of_lt_of_le (Nat.lt_of_le_of_lt (Nat.zero_le _) hil) hl);rw[hct] at h1;obtain⟨x,hg,rfl⟩:=read h2;obtain⟨_,hlen,h3⟩:=World.cells?_some h1;have k0:=h3 0 hm0;rw[JA _ _ (by simp[Addr.add])] at k0;have hp:0<(cells x).toList.length:=by rw[hlen];exact hm0
   rw[List.getElem?_eq_getElem hp] at k0;cases k0
 obtain⟨B,hB⟩:∃B:Nat→α,∀i,i<len→good (B i)∧∃g off,a=⟨g,off,none⟩∧CO W g (off+i*m) (cells (B i)):=by
  refine⟨fun i=>if hi:i<len then Classical.choose (one i hi) else default,fun i hi=>?_⟩;simp only[dif_pos hi];exact Classical.choose_spec (one i hi)
 refine⟨some a,(List.range len).map B,cap,by rw[hcs];simp,fun x hx=>?_,fun i x hi=>?_⟩
 · obtain⟨j,hj,rfl⟩:=List.mem_map.1 hx
   exact(hB j (List.mem_range.1 hj)).1
 have hil:i<len:=by
  have:=(List.getElem?_eq_some_iff.1 hi).1;simpa using this
 have:x=B i:=by simp[hil] at hi;exact hi.symm
 subst this;obtain⟨_,g,off,h1,h2⟩:=hB i hil;exact⟨g,off,by rw[h1],h2⟩
end
def M8 (m:Nat) (a:Option Addr) (cap i:Nat):Option Addr:=if cap=i then a else a.map (·.add (i*m))
theorem Dl.take {α:Type} {m:Nat} {cells:α→Array Value} {w:World} {ao:Option Addr} {l:List α} (h:Dl m cells w ao l) (n:Nat):Dl m cells w ao (l.take n):=fun i x hi=>by
 rw[List.getElem?_take] at hi;split at hi
 · exact h i x hi
 cases hi
theorem Dl.drop {α:Type} {m:Nat} {cells:α→Array Value} {w:World} {ao:Option Addr} {l:List α} (h:Dl m cells w ao l) (n cap:Nat) (hc:l.length≤cap):Dl m cells w (M8 m ao cap n) (l.drop n):=fun i x hi=>by
 rw[List.getElem?_drop] at hi;obtain⟨g,off,rfl,hp⟩:=h _ x hi;have hn:n+i<l.length:=(List.getElem?_eq_some_iff.1 hi).1;refine⟨g,off+n*m,?_,by rw[show off+n*m+i*m=off+(n+i)*m by rw[Nat.add_mul];omega];exact hp⟩;unfold M8;rw[if_neg (by omega)];simp[add_plain]
theorem Nk {cur cs:Array Value} {o i:Nat} {v:Value} (h3:cur.extract o (o+cs.size)=cs) (hi:cs[i]?=some v):cur[o+i]?=some v:=by
 rw[←h3,Array.getElem?_extract] at hi;simp at hi;exact hi.2
theorem Ra {cur cs K:Array Value} {o n:Nat} (h3:cur.extract o (o+cs.size)=cs) (hn:n≤cs.size) (hk:cs.extract 0 (0+n)=K):cur.extract o (o+n)=K:=by
 rw[←hk, ←h3,Array.extract_extract]
 congr 1
 omega
end Go.Proofs.YtooijgcildbnlaaGreat.BE

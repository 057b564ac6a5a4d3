/- Laws of the layers below. -/
import Derived.Test.YtooijgcildbnlaaGreatQg37
set_option maxHeartbeats 3200000
set_option maxRecDepth 100000
set_option linter.unusedVariables false
namespace Go.Proofs.YtooijgcildbnlaaGreat.Store
open Go.RowKit Go.Proofs.YtooijgcildbnlaaGreat.ShaW Go.Proofs.YtooijgcildbnlaaGreat.Path
theorem EW.since {w0 w wz:World} {v:Value} {l:List UInt8} (h:EW w0 w v l) (a:Adds wz w0):EW wz w v l:=by
 obtain⟨⟨q,qc,rfl,h2⟩,h3⟩:=h;exact⟨⟨q,qc,rfl,h2.base (fun k hk=>Nat.le_trans a.size (h2.lt k hk).1)⟩,a.trans h3 (fun _=>fEq)⟩
theorem Mm (l r:List UInt8) (hl:l.length=32) (hr:r.length=32) (w:World):Calls Tryz.prog 263 #[.agg (AJ l),.agg (AJ r)] w fun e w'=>∃v',e=.returned v'∧EW w w' v' (1::(l++r)):=by
 obtain⟨L,hL⟩:∃L,L=AJ l:=⟨_,rfl⟩
 obtain⟨R,hR⟩:∃R,R=AJ r:=⟨_,rfl⟩
 obtain⟨w3,hw3⟩:∃w3,w3=(w.alloc (.cells L 23)).alloc (.cells R 23):=⟨_,rfl⟩
 have g0:w3.heap[w.heap.size]?=some (.cells L 23 (0,0)):=by rw[hw3];exact AM (heap_alloc_new _ _) _
 have g1:w3.heap[w.heap.size+1]?=some (.cells R 23 (0,0)):=by
  rw[hw3];have:=heap_alloc_new (w.alloc (.cells L 23)) (.cells R 23);simpa using this
 have hs3:w3.heap.size=w.heap.size+1+1:=by rw[hw3];simp
 have hc3:Adds w w3:=by rw[hw3];exact((Ch.refl _ _).alloc _).alloc _
 have hp:Tag.GR (w3.drew.alloc (.cells #[.slice (some ⟨w.heap.size,0,none⟩) 32 32,.slice (some ⟨w.heap.size+1,0,none⟩) 32 32] 73)) (.slice (some ⟨w3.heap.size,0,none⟩) 2 2) [l,r]:=by
  have hcx:Ch (fun _=>False) w3 (w3.drew.alloc (.cells #[.slice (some ⟨w.heap.size,0,none⟩) 32 32,.slice (some ⟨w.heap.size+1,0,none⟩) 32 32] 73)):=(Ch.refl _ _).drew.alloc _;have hrow:=heap_alloc_new w3.drew (.cells #[.slice (some ⟨w.heap.size,0,none⟩) 32 32,.slice (some ⟨w.heap.size+1,0,none⟩) 32 32] 73);rw[hL] at g0;rw[hR] at g1;have b0:=(Bytes.row g0 hl (by unfold maxLen;omega)).Am hcx (fun _ _ h=>h);have b1:=(Bytes.row g1 hr (by unfold maxLen;omega)).Am hcx (fun _ _ h=>h);refine⟨_,2,rfl,fun i p h=>?_⟩
  match i,h with
  | 0,h =>
   simp at h;subst h;exact⟨w3.heap.size,0,_,rfl,AG hrow rfl,b0,fun _ k hk=>by cases hk;simp;omega⟩
  | 1,h =>
   simp at h;subst h;exact⟨w3.heap.size,0,_,rfl,AG hrow rfl,b1,fun _ k hk=>by cases hk;simp;omega⟩
  | i+2,h=>simp at h
 have hcall:=Jz 1 hp (by simp[hl,hr]) (by simp);rw[show [l,r].flatten=l++r by simp] at hcall;have hs0:∀w0:World,(Instr.sliceAt 23 (.pointer (some ⟨w.heap.size,0,none⟩)) none none none).run Tryz.prog w0=.ok (.slice (some ⟨w.heap.size,0,none⟩) 32 32) w0:=fun w0=>CA w0 23 32 (by kernel_rfl) (by kernel_rfl) (by kernel_rfl) _ _
 have hs1:∀w0:World,(Instr.sliceAt 23 (.pointer (some ⟨w.heap.size+1,0,none⟩)) none none none).run Tryz.prog w0=.ok (.slice (some ⟨w.heap.size+1,0,none⟩) 32 32) w0:=fun w0=>CA w0 23 32 (by kernel_rfl) (by kernel_rfl) (by kernel_rfl) _ _
 rw[←hL, ←hR];have HC:=Lib.hid hcall;have G2:=(hIq hs3 hc3)
 have W3:=Lib.hid hw3;clear hcall hp hl hr g0 g1 hs3 hc3 hw3 hL hR;go_enter Tryz.func263,Tryz.ntmps263;go_wp2_with fail;rw[←W3.out];go_still_tail 2,(by kernel_rfl)
 show wpList _ _ _ _ _ w3.drew
 go_wp2_with fail;refine HC.out.mono ?_;rintro e w4 ⟨v4,rfl,hB⟩;have hB2:=hB.since (G2.out.2.drew.alloc (.cells #[.slice (some ⟨w.heap.size,0,none⟩) 32 32,.slice (some ⟨w.heap.size+1,0,none⟩) 32 32] 73));obtain⟨m,hm⟩:∃m,m=(1::(l++r)).length:=⟨_,rfl⟩
 have HB2:=Lib.hid hB2;clear hB;obtain⟨⟨q,qc,rfl,_⟩,_⟩:=hB2;rw[←hm] at HB2 ⊢;clear hm;go_wp2;exact⟨rfl,.slice q m qc,(by simp[results,Tryz.f263,go_sem]),.slice q m qc,rfl,HB2.out⟩
theorem Rp (l r:List UInt8) (hl:l.length=32) (hr:r.length=32) (w:World):Calls Tryz.prog 210 #[.agg (AJ l),.agg (AJ r)] w fun e w'=>e=.returned (.agg (AJ (Tag.CZ l r)))∧Adds w w':=by
 obtain⟨Z,hZ⟩:∃Z,Z=AJ (List.replicate 32 0):=⟨_,rfl⟩
 have hzh:=IQ;rw[←hZ] at hzh;have hZs:Z.size=32:=by rw[hZ];rfl
 obtain⟨O,hO⟩:∃O,O=AJ (Tag.CZ l r):=⟨_,rfl⟩
 have hos:O.size=32:=by rw[hO,AY];exact Tag.Ab _ _
 have ho1:=Aq (Tag.CZ l r);rw[←hO] at ho1;obtain⟨L,hL⟩:∃L,L=AJ l:=⟨_,rfl⟩
 obtain⟨R,hR⟩:∃R,R=AJ r:=⟨_,rfl⟩
 have hLs:L.size=32:=by rw[hL,AY,hl]
 have hRs:R.size=32:=by rw[hR,AY,hr]
 obtain⟨w3,hw3⟩:∃w3,w3=((w.alloc (.cells L 23)).alloc (.cells R 23)).alloc (.cells Z 23):=⟨_,rfl⟩
 have g0:w3.heap[w.heap.size]?=some (.cells L 23 (0,0)):=by rw[hw3];exact AM (AM (heap_alloc_new _ _) _) _
 have g1:w3.heap[w.heap.size+1]?=some (.cells R 23 (0,0)):=by
  rw[hw3];refine AM ?_ _;have:=heap_alloc_new (w.alloc (.cells L 23)) (.cells R 23);simpa using this
 have g2:w3.heap[w.heap.size+1+1]?=some (.cells Z 23 (0,0)):=by
  rw[hw3,Ap];simp
 have hc3:Adds w w3:=by rw[hw3];exact(((Ch.refl _ _).alloc _).alloc _).alloc _
 have hcall:=Mm l r hl hr w3;rw[←hL, ←hR] at hcall ⊢
 have hsm:Sha.sum (1::(l++r))=Tag.CZ l r:=by
  show _=Sha.sum (1 :: [l,r].flatten)
  simp
 have hlen:(1::(l++r)).length=65:=by simp[hl,hr]
 have HC:=Lib.hid hcall;have HS:=(hIq hsm hlen)
 have HZ:=(hIq hzh hZs)
 have HO:=(hIq hO (aIq hos ho1))
 have HG:=(hIq g2 (aIq hc3 (aIq g0 g1)))
 have HLR:=(hIq hLs hRs)
 have W3:=Lib.hid hw3;clear hzh hZs hZ hO hos ho1 hcall hl hr g0 g1 g2 hc3 hw3 hL hR hsm hlen hLs hRs;go_enter Tryz.func210,Tryz.ntmps210;go_upto_region 1 with(first|fail|((with_reducible show zOq (.alloc 23));refine AH rfl 23 rfl (.agg Z) HZ.out.1 ?_;dsimp only[Value.cells];try simp only[World.size_alloc]))
 rw[←W3.out]
 go_wp2_with (first
  | fail
  | ((with_reducible show zOq (.load 23 _));refine AK rfl 23 _ rfl w.heap.size 0 rfl HG.out.2.2.1 Tryz.underlying23 rfl C0 (by rw[HLR.out.1];omega) L (by simp[←HLR.out.1]) ?_)
  | ((with_reducible show zOq (.load 23 _));refine AK rfl 23 _ rfl (w.heap.size+1) 0 rfl HG.out.2.2.2 Tryz.underlying23 rfl C0 (by rw[HLR.out.2];omega) R (by simp[←HLR.out.2]) ?_))
 refine HC.out.mono ?_;rintro e w1 ⟨v1,rfl,hB⟩;have hz1:=hB.2.row HG.out.1 id;have hw1:=HG.out.2.1.trans hB.2 (fun _=>fEq);have hbb:=hB.bytes;obtain⟨⟨q,qc,rfl,_⟩,_⟩:=hB;rw[HS.out.2] at hbb ⊢;have hsum:=MK hbb (by omega);rw[HS.out.1, ←HO.out.1] at hsum;have HSS:=Lib.hid hsum;have Z1:=Lib.hid hz1;have W1:=Lib.hid hw1;clear hz1 hw1 hbb hsum;go_wp2_with fail;refine HSS.out.mono ?_;rintro e w4 ⟨rfl,hc4⟩;have hz4:=hc4.row Z1.out id;have hw4:=W1.out.trans hc4 (fun _=>fEq);have Z4:=Lib.hid hz4;have W4:=Lib.hid hw4;clear hc4 hz4 hw4
 go_wp2_with (first
  | ((with_reducible show zOq (.store 23 _ _));refine AE rfl 23 _ _ rfl (w.heap.size+1+1) 0 O rfl rfl Z4.out (by rw[C0,HO.out.2.1]) (by rw[HO.out.2.1,HZ.out.2];omega) HO.out.2.2 O (by rw[AI _ _ (by rw[Array.length_toList,Array.length_toList,HO.out.2.1,HZ.out.2])]) ?_))
 exact AN (p:=4) rfl rfl (AF Z4.out _) Tryz.underlying23 rfl (by rw[C0,HO.out.2.1]) rfl ⟨by rw[HO.out.1],W4.out.setRow (.inr (by omega)) _⟩
theorem LH (l r:List UInt8) (hl:l.length=32) (hr:r.length=32) (w:World):Calls Tryz.prog 264 #[.agg (AJ l),.agg (AJ r)] w fun e w'=>∃v',e=.returned v'∧EW w w' v' (2::(l++r)):=by
 obtain⟨L,hL⟩:∃L,L=AJ l:=⟨_,rfl⟩
 obtain⟨R,hR⟩:∃R,R=AJ r:=⟨_,rfl⟩
 obtain⟨w3,hw3⟩:∃w3,w3=(w.alloc (.cells L 23)).alloc (.cells R 23):=⟨_,rfl⟩
 have g0:w3.heap[w.heap.size]?=some (.cells L 23 (0,0)):=by rw[hw3];exact AM (heap_alloc_new _ _) _
 have g1:w3.heap[w.heap.size+1]?=some (.cells R 23 (0,0)):=by
  rw[hw3];have:=heap_alloc_new (w.alloc (.cells L 23)) (.cells R 23);simpa using this
 have hs3:w3.heap.size=w.heap.size+1+1:=by rw[hw3];simp
 have hc3:Adds w w3:=by rw[hw3];exact((Ch.refl _ _).alloc _).alloc _
 have hp:Tag.GR (w3.drew.alloc (.cells #[.slice (some ⟨w.heap.size,0,none⟩) 32 32,.slice (some ⟨w.heap.size+1,0,none⟩) 32 32] 73)) (.slice (some ⟨w3.heap.size,0,none⟩) 2 2) [l,r]:=by
  have hcx:Ch (fun _=>False) w3 (w3.drew.alloc (.cells #[.slice (some ⟨w.heap.size,0,none⟩) 32 32,.slice (some ⟨w.heap.size+1,0,none⟩) 32 32] 73)):=(Ch.refl _ _).drew.alloc _;have hrow:=heap_alloc_new w3.drew (.cells #[.slice (some ⟨w.heap.size,0,none⟩) 32 32,.slice (some ⟨w.heap.size+1,0,none⟩) 32 32] 73);rw[hL] at g0;rw[hR] at g1;have b0:=(Bytes.row g0 hl (by unfold maxLen;omega)).Am hcx (fun _ _ h=>h);have b1:=(Bytes.row g1 hr (by unfold maxLen;omega)).Am hcx (fun _ _ h=>h);refine⟨_,2,rfl,fun i p h=>?_⟩
  match i,h with
  | 0,h =>
   simp at h;subst h;exact⟨w3.heap.size,0,_,rfl,AG hrow rfl,b0,fun _ k hk=>by cases hk;simp;omega⟩
  | 1,h =>
   simp at h;subst h;exact⟨w3.heap.size,0,_,rfl,AG hrow rfl,b1,fun _ k hk=>by cases hk;simp;omega⟩
  | i+2,h=>simp at h
 have hcall:=Jz 2 hp (by simp[hl,hr]) (by simp);rw[show [l,r].flatten=l++r by simp] at hcall;have hs0:∀w0:World,(Instr.sliceAt 23 (.pointer (some ⟨w.heap.size,0,none⟩)) none none none).run Tryz.prog w0=.ok (.slice (some ⟨w.heap.size,0,none⟩) 32 32) w0:=fun w0=>CA w0 23 32 (by kernel_rfl) (by kernel_rfl) (by kernel_rfl) _ _
 have hs1:∀w0:World,(Instr.sliceAt 23 (.pointer (some ⟨w.heap.size+1,0,none⟩)) none none none).run Tryz.prog w0=.ok (.slice (some ⟨w.heap.size+1,0,none⟩) 32 32) w0:=fun w0=>CA w0 23 32 (by kernel_rfl) (by kernel_rfl) (by kernel_rfl) _ _
 rw[←hL, ←hR];have HC:=Lib.hid hcall;have G2:=(hIq hs3 hc3)
 have W3:=Lib.hid hw3;clear hcall hp hl hr g0 g1 hs3 hc3 hw3 hL hR;go_enter Tryz.func264,Tryz.ntmps264;go_wp2_with fail;rw[←W3.out];go_still_tail 2,(by kernel_rfl)
 show wpList _ _ _ _ _ w3.drew
 go_wp2_with fail;refine HC.out.mono ?_;rintro e w4 ⟨v4,rfl,hB⟩;have hB2:=hB.since (G2.out.2.drew.alloc (.cells #[.slice (some ⟨w.heap.size,0,none⟩) 32 32,.slice (some ⟨w.heap.size+1,0,none⟩) 32 32] 73));obtain⟨m,hm⟩:∃m,m=(2::(l++r)).length:=⟨_,rfl⟩
 have HB2:=Lib.hid hB2;clear hB;obtain⟨⟨q,qc,rfl,_⟩,_⟩:=hB2;rw[←hm] at HB2 ⊢;clear hm;go_wp2;exact⟨rfl,.slice q m qc,(by simp[results,Tryz.f264,go_sem]),.slice q m qc,rfl,HB2.out⟩
theorem QH (l r:List UInt8) (hl:l.length=32) (hr:r.length=32) (w:World):Calls Tryz.prog 212 #[.agg (AJ l),.agg (AJ r)] w fun e w'=>e=.returned (.agg (AJ (Tag.Cj l r)))∧Adds w w':=by
 obtain⟨Z,hZ⟩:∃Z,Z=AJ (List.replicate 32 0):=⟨_,rfl⟩
 have hzh:=IQ;rw[←hZ] at hzh;have hZs:Z.size=32:=by rw[hZ];rfl
 obtain⟨O,hO⟩:∃O,O=AJ (Tag.Cj l r):=⟨_,rfl⟩
 have hos:O.size=32:=by rw[hO,AY];exact Tag.Ab _ _
 have ho1:=Aq (Tag.Cj l r);rw[←hO] at ho1;obtain⟨L,hL⟩:∃L,L=AJ l:=⟨_,rfl⟩
 obtain⟨R,hR⟩:∃R,R=AJ r:=⟨_,rfl⟩
 have hLs:L.size=32:=by rw[hL,AY,hl]
 have hRs:R.size=32:=by rw[hR,AY,hr]
 obtain⟨w3,hw3⟩:∃w3,w3=((w.alloc (.cells L 23)).alloc (.cells R 23)).alloc (.cells Z 23):=⟨_,rfl⟩
 have g0:w3.heap[w.heap.size]?=some (.cells L 23 (0,0)):=by rw[hw3];exact AM (AM (heap_alloc_new _ _) _) _
 have g1:w3.heap[w.heap.size+1]?=some (.cells R 23 (0,0)):=by
  rw[hw3];refine AM ?_ _;have:=heap_alloc_new (w.alloc (.cells L 23)) (.cells R 23);simpa using this
 have g2:w3.heap[w.heap.size+1+1]?=some (.cells Z 23 (0,0)):=by
  rw[hw3,Ap];simp
 have hc3:Adds w w3:=by rw[hw3];exact(((Ch.refl _ _).alloc _).alloc _).alloc _
 have hcall:=LH l r hl hr w3;rw[←hL, ←hR] at hcall ⊢
 have hsm:Sha.sum (2::(l++r))=Tag.Cj l r:=by
  show _=Sha.sum (2 :: [l,r].flatten)
  simp
 have hlen:(2::(l++r)).length=65:=by simp[hl,hr]
 have HC:=Lib.hid hcall;have HS:=(hIq hsm hlen)
 have HZ:=(hIq hzh hZs)
 have HO:=(hIq hO (aIq hos ho1))
 have HG:=(hIq g2 (aIq hc3 (aIq g0 g1)))
 have HLR:=(hIq hLs hRs)
 have W3:=Lib.hid hw3;clear hzh hZs hZ hO hos ho1 hcall hl hr g0 g1 g2 hc3 hw3 hL hR hsm hlen hLs hRs;go_enter Tryz.func212,Tryz.ntmps212;go_upto_region 1 with(first|fail|((with_reducible show zOq (.alloc 23));refine AH rfl 23 rfl (.agg Z) HZ.out.1 ?_;dsimp only[Value.cells];try simp only[World.size_alloc]))
 rw[←W3.out]
 go_wp2_with (first
  | fail
  | ((with_reducible show zOq (.load 23 _));refine AK rfl 23 _ rfl w.heap.size 0 rfl HG.out.2.2.1 Tryz.underlying23 rfl C0 (by rw[HLR.out.1];omega) L (by simp[←HLR.out.1]) ?_)
  | ((with_reducible show zOq (.load 23 _));refine AK rfl 23 _ rfl (w.heap.size+1) 0 rfl HG.out.2.2.2 Tryz.underlying23 rfl C0 (by rw[HLR.out.2];omega) R (by simp[←HLR.out.2]) ?_))
 refine HC.out.mono ?_;rintro e w1 ⟨v1,rfl,hB⟩;have hz1:=hB.2.row HG.out.1 id;have hw1:=HG.out.2.1.trans hB.2 (fun _=>fEq);have hbb:=hB.bytes;obtain⟨⟨q,qc,rfl,_⟩,_⟩:=hB;rw[HS.out.2] at hbb ⊢;have hsum:=MK hbb (by omega);rw[HS.out.1, ←HO.out.1] at hsum;have HSS:=Lib.hid hsum;have Z1:=Lib.hid hz1;have W1:=Lib.hid hw1;clear hz1 hw1 hbb hsum;go_wp2_with fail;refine HSS.out.mono ?_;rintro e w4 ⟨rfl,hc4⟩;have hz4:=hc4.row Z1.out id;have hw4:=W1.out.trans hc4 (fun _=>fEq);have Z4:=Lib.hid hz4;have W4:=Lib.hid hw4;clear hc4 hz4 hw4
 go_wp2_with (first
  | ((with_reducible show zOq (.store 23 _ _));refine AE rfl 23 _ _ rfl (w.heap.size+1+1) 0 O rfl rfl Z4.out (by rw[C0,HO.out.2.1]) (by rw[HO.out.2.1,HZ.out.2];omega) HO.out.2.2 O (by rw[AI _ _ (by rw[Array.length_toList,Array.length_toList,HO.out.2.1,HZ.out.2])]) ?_))
 exact AN (p:=4) rfl rfl (AF Z4.out _) Tryz.underlying23 rfl (by rw[C0,HO.out.2.1]) rfl ⟨by rw[HO.out.1],W4.out.setRow (.inr (by omega)) _⟩
end Go.Proofs.YtooijgcildbnlaaGreat.Store
namespace Go.Proofs.YtooijgcildbnlaaGreat.Store
open Go.RowKit Go.Sort Go.Proofs.YtooijgcildbnlaaGreat.ShaW Go.Proofs.YtooijgcildbnlaaGreat.Path Go.Proofs.YtooijgcildbnlaaGreat.CI
structure Lp (w:World) (v:Value) (out:List Pr):Prop where
 row:RowP w 0 v out
 nil:out = []→v=.slice none 0 0
 good:∀x∈out,x.Good w
theorem _root_.Go.Proofs.YtooijgcildbnlaaGreat.CI.Pr.Good.adds {w w':World} {x:Pr} (h:x.Good w) (a:Adds w w'):x.Good w' :=
 ⟨h.key,h.val.Am a (fun _ _ h=>h),fun h0 k hk=>Nat.lt_of_lt_of_le (h.blk h0 k hk) a.size⟩
theorem Lp.adds {w w':World} {v:Value} {out:List Pr} (h:Lp w v out) (a:Adds w w'):Lp w' v out:=⟨h.row.adds a,h.nil,fun x hx=>(h.good x hx).adds a⟩
theorem _root_.Go.Proofs.YtooijgcildbnlaaGreat.CI.Pr.Good.one {w:World} {x:Pr} (h:x.Good w):∀u∈x.cells.toList,u.oneCell'=true:=fun u hu=>by
 obtain⟨ao,cap,e,_⟩:=h.val.form;rw[Pr.list,List.mem_append,List.mem_map,List.mem_singleton] at hu;rcases hu with⟨c,_,rfl⟩|rfl
 · rfl
 rw[e];rfl
def Du (b d:Nat) (l:List Pr):List Pr:=l.filter (fun x=>BE x.key d == b)
theorem Kg (b d:Nat) (l:List Pr):(Du b d l).map Pr.ent=DE b d (l.map Pr.ent):=by
 unfold Du DE;rw[List.filter_map];rfl
theorem UZ (w:World) (x:Pr) (hk:x.key.length=32):RowP (w.alloc (.cells x.cells 141)) w.heap.size (.slice (some ⟨w.heap.size,0,none⟩) 1 1) [x]:=by
 refine World.ownsRow.base (b:=0) (CE (heap_alloc_new _ _) (Nat.le_refl 1) (by unfold maxLen;omega) (by show x.cells.size=1*33;rw[Pr.size hk]) ?_) (fun j hj=>?_)
 · show x.cells.toList.take (1*33)=BG [_]
   rw[List.take_of_length_le (by rw[Array.length_toList,Pr.size hk];omega)];simp[BG]
 cases hj;exact Nat.le_refl _
theorem No {w:World} {v:Value} {l:List Pr} (h:Lp w v l) (hl:l.length≤65536) (d:Nat) (hd:d<256) (b:Nat) (hb:b≤1) :
 Calls Tryz.prog 213 #[v,.int .i64 (d:Int),.int .i64 (b:Int)] w fun e w'=>∃v',e=.returned v'∧Lp w' v' (Du b d l)∧Adds w w':=by
 by_cases h0:l = []
 · subst h0
   obtain rfl:=h.nil rfl;have HL:=Lib.hid h;clear h hl;go_enter Tryz.func213,Tryz.ntmps213;go_wp2_with fail;go_loopg [7,8] 0 (fun gg s7 s8 wr=>gg=0∧s7=.slice none 0 0∧s8=.int .i64 0∧Adds w wr)
   case atStart=>exact⟨rfl,rfl,rfl,Ch.refl _ _⟩
   obtain⟨rfl,rfl,rfl,ha⟩:=hrel;have HA:=Lib.hid ha;clear ha;go_wp2;exact⟨rfl,.slice none 0 0,(by simp[results,Tryz.f213,go_sem]),.slice none 0 0,rfl,HL.out.adds HA.out,HA.out⟩
 have hpos:0<l.length:=List.length_pos_iff.2 h0;have hko:Fi l:=fun x hx=>(h.good x hx).key
 obtain⟨g,cap,cur,rfl,_,hg,hsz,hget,_⟩:=h.row.open hko hpos
 obtain⟨n,hn⟩:∃n,n=l.length:=⟨_,rfl⟩
 rw[←hn] at hl hsz hpos;have HL:=(hIq h.good (aIq hg (aIq hsz (aIq hget (aIq hko hn)))))
 rw[←hn];clear h hg hsz hget hko hn h0;obtain⟨i0,z0,p1,p2,p3,p4,p5⟩:=GZ;have HI:=(hIq p1 (aIq p2 (aIq p3 (aIq p4 p5))))
 clear p1 p2 p3 p4 p5;go_enter Tryz.func213,Tryz.ntmps213;go_wp2_with fail;go_loopg [7,8] n (fun gg s7 s8 wr=>∃i:Nat,i≤n∧gg=n-i∧s8=.int .i64 i∧RowP wr w.heap.size s7 (Du b d (l.take i))∧(Du b d (l.take i) = []→s7=.slice none 0 0)∧Adds w wr)
 case atStart=>exact⟨0,Nat.zero_le _,rfl,rfl,by rw[List.take_zero];exact⟨by simp[Du,BG],.inl ⟨rfl,rfl⟩⟩,fun _=>rfl,Ch.refl _ _⟩
 obtain⟨i,hi,rfl,rfl,hrow,hnil,ha⟩:=hrel;obtain⟨q,qc,rfl⟩:=hrow.form;obtain⟨o,ho⟩:∃o,o=Du b d (l.take i):=⟨_,rfl⟩
 rw[←ho] at hrow hnil ⊢;obtain⟨m,hm⟩:∃m,m=o.length:=⟨_,rfl⟩
 have hmi:m≤i:=by
  rw[hm,ho];exact Nat.le_trans (List.length_filter_le _ _) (by rw[List.length_take];omega)
 rw[←hm] at hrow hnil ⊢;by_cases hin:i<n
 · obtain⟨x,hx⟩:∃x,l[i]?=some x:=⟨_,List.getElem?_eq_getElem (by rw[←HL.out.2.2.2.2.2];exact hin)⟩
   have hgx:=HL.out.1 x (List.mem_of_getElem? hx);have hgt:=HL.out.2.2.2.1 i x hx;have hky:=(Cx hgx.key hgt).1;have hbit:=Io x.key hgx.key d hd
   have hnext:Du b d (l.take (i+1))=o++(if BE x.key d=b then [x] else []):=by
    rw[List.take_add_one,hx,Option.toList_some,Du,List.filter_append,ho]
    congr 1
    by_cases e:BE x.key d=b
    · rw[if_pos e,List.filter_cons_of_pos (by rw[e];exact beq_self_eq_true _),List.filter_nil]
    rw[if_neg e,List.filter_cons_of_neg (by simp[e]),List.filter_nil]
   obtain⟨K,hK⟩:∃K,K=AJ x.key:=⟨_,rfl⟩
   obtain⟨C,hC⟩:∃C,C=x.cells:=⟨_,rfl⟩
   obtain⟨kb,hkb⟩:∃kb,kb=BE x.key d:=⟨_,rfl⟩
   rw[←hK] at hky hbit;rw[←hC] at hgt;rw[←hkb] at hbit hnext;have hCs:C.size=33:=by rw[hC];exact Pr.size hgx.key
   have hi33:i*33+32≤cur.size∧i*33+33≤cur.size:=by have:=HL.out.2.2.1;omega
   have HX:=(hIq hgx (aIq hky (aIq hgt (aIq hC (aIq hCs hi33)))))
   have HB:=Lib.hid hbit;have HN:=Lib.hid hnext;have HR:=(hIq hrow (aIq hnil (aIq ha (aIq (ha.row HL.out.2.1 id) hm))))
   have e1':(i:Int)<(n:Int):=by omega
   clear hx hgx hgt hky hbit hnext hK hC hkb hCs hi33 hrow hnil ha hm ho
   go_wp2_with (first
    | fail
    | ((with_reducible show zOq (.load 24 _));refine AK rfl 24 _ rfl g (i*33) rfl HR.out.2.2.2.1 Tryz.underlying24 rfl Au HX.out.2.2.2.2.2.1 K HX.out.2.1 ?_))
   refine(HB.out _).mono ?_;rintro e wa ⟨rfl,aa⟩;have HA:=(hIq (HR.out.1.adds aa) (aIq (aa.row HR.out.2.2.2.1 id) (HR.out.2.2.1.trans aa (fun _=>fEq))))
   clear aa;by_cases hbw:kb=b
   · have t1:(kb:Int)=(b:Int):=by rw[hbw]
     have HBW:=Lib.hid hbw;clear hbw
     go_wp2_with (first
      | fail
      | ((with_reducible show zOq (.load 141 _));refine AK rfl 141 _ rfl g (i*33) rfl HA.out.2.1 Tryz.underlying141 rfl (by rw[HI.out.1];exact congrArg some HI.out.2.2.1) HX.out.2.2.2.2.2.2 C HX.out.2.2.1 ?_)
      | ((with_reducible show zOq (.buildSlice 33 _ _));refine Be rfl 33 _ rfl 141 i0 z0 (.agg C) rfl Tryz.underlying33 HI.out.1 HI.out.2.1 (by rw[HI.out.2.2.1];omega) (by rw[HI.out.2.2.1];omega) (by rw[HI.out.2.2.1];exact HX.out.2.2.2.2.1) ?_)
      | (at_builtin;refine CU rfl _ _ rfl (v1:=.slice q m qc) (v2:=.slice (some ⟨wa.heap.size,0,none⟩) 1 1) (l2 := [x]) rfl rfl (HA.out.1.adds ((Ch.refl _ _).alloc _)) (by rw[show Value.cells (.agg C)=x.cells from HX.out.2.2.2.1];exact UZ wa x HX.out.1.key) (fun h=>by cases h) (by have:=HR.out.2.2.2.2;simp;omega) (fun p hp=>by obtain rfl:=List.mem_singleton.1 hp;exact HX.out.1.one) (by have:=HA.out.2.2.size;simp;omega) ?_;intro v9 w9 hr9 hn9 hg9))
     have ha9:Adds w w9:=Ch.grown (HA.out.2.2.alloc _) hg9 (fun k hk=>.inr (HA.out.1.lt k hk).1);obtain⟨q9,c9,hv9⟩:=hr9.form;have H9:=(hIq hr9 (aIq (hn9 HR.out.2.1) ha9))
     clear hr9 hn9 hg9 ha9;subst hv9;go_wp2;go_roundg (n-(i+1))
     case measure=>omega
     have e:=HN.out;rw[if_pos HBW.out] at e;exact⟨i+1,by omega,rfl,by go_num,by rw[e];exact H9.out.1,by rw[e];exact H9.out.2.1,H9.out.2.2⟩
   have t1:¬(kb:Int)=(b:Int):=fun e=>hbw (by omega)
   have HBW:=Lib.hid hbw;clear hbw;go_wp2;go_roundg (n-(i+1))
   case measure=>omega
   have e:=HN.out;rw[if_neg HBW.out,List.append_nil] at e;refine⟨i+1,by omega,rfl,by go_num,by rw[e];exact HA.out.1,by rw[e];exact HR.out.2.1,HA.out.2.2⟩
 have hil':i=n:=by omega
 subst hil';have hd':decide ((i:Int)<(i:Int))=false:=by simp
 have hoo:o=Du b d l:=by rw[ho,HL.out.2.2.2.2.2,List.take_length]
 have HR:=(hIq hrow (aIq hnil (aIq ha hoo)))
 clear hrow hnil ha hoo ho hm hi hin;go_wp2;refine⟨rfl,.slice q m qc,(by simp[results,Tryz.f213,go_sem]),.slice q m qc,rfl,?_,HR.out.2.2.1⟩;rw[←HR.out.2.2.2];exact⟨HR.out.1.base (fun k hk=>Nat.zero_le _),HR.out.2.1,fun x hx=>(HL.out.1 x (by rw[HR.out.2.2.2] at hx;exact(List.mem_filter.1 hx).1)).adds HR.out.2.2.1⟩
theorem Bi.Ok.Qb {L:Bi} {k:List UInt8} {d:Nat} (h:L.Ok k d) (b:Nat):∃k',Bi.Ok (DE b d L) k' (d+1):=by
 by_cases e:DE b d L = []
 · exact⟨k,by rw[e];exact⟨List.nodup_nil,fun p hp=>(by cases hp),fun p hp=>(by cases hp)⟩⟩
 obtain⟨p,hp⟩:=List.exists_mem_of_ne_nil _ e;have hm:=(List.mem_filter.1 hp).1;have hb:BE p.1 d=b:=by simpa using (List.mem_filter.1 hp).2
 have h2:L.Ok p.1 d:=⟨h.nodup,h.len,fun q hq=>(h.pre q hq).trans (h.pre p hm).symm⟩
 have:=h2.side;rw[hb] at this;exact⟨p.1,this⟩
theorem CN:∀(t:Tr),t.dig.length=32
 | .nil=>Tag.Ab _ _
 | .leaf _ _=>Tag.Ab _ _
 | .node _ _=>Tag.Ab _ _
theorem NK (d:Int) (w:World):Calls Tryz.prog 138 #[.slice none 0 0,.int .i64 d] w fun e w'=>e=.returned (.agg (AJ Tag.CY))∧Adds w w':=by
 obtain⟨Z,hZ⟩:∃Z,Z=AJ (List.replicate 32 0):=⟨_,rfl⟩
 have hzh:=IQ;rw[←hZ] at hzh;have hZs:Z.size=32:=by rw[hZ];rfl
 obtain⟨O,hO⟩:∃O,O=AJ Tag.CY:=⟨_,rfl⟩
 have hos:O.size=32:=by rw[hO,AY];exact Tag.Ab _ _
 have ho1:=Aq Tag.CY;have hcall:=Lm;rw[←hO] at ho1 hcall ⊢;have HC:=Lib.hid hcall;have HZ:=(hIq hzh hZs)
 have HO:=(hIq hO (aIq hos ho1))
 clear hzh hZs hZ hO hos ho1 hcall;go_enter Tryz.func138,Tryz.ntmps138;go_wp2_with (first|fail|((with_reducible show zOq (.alloc 23));refine AH rfl 23 rfl (.agg Z) HZ.out.1 ?_;dsimp only[Value.cells];try simp only[World.size_alloc]));refine(HC.out _).mono ?_;rintro e w4 ⟨rfl,hc4⟩;have hz4:=hc4.row (heap_alloc_new w (.cells Z 23)) id;have hw4:=((Ch.refl (fun _=>False) w).alloc (.cells Z 23)).trans hc4 (fun _=>fEq);have Z4:=Lib.hid hz4;have W4:=Lib.hid hw4;clear hc4 hz4 hw4
 go_wp2_with (first
  | fail
  | ((with_reducible show zOq (.store 23 _ _));refine AE rfl 23 _ _ rfl w.heap.size 0 O rfl rfl Z4.out (by rw[C0,HO.out.2.1]) (by rw[HO.out.2.1,HZ.out.2];omega) HO.out.2.2 O (by rw[AI _ _ (by rw[Array.length_toList,Array.length_toList,HO.out.2.1,HZ.out.2])]) ?_))
 exact AN (p:=4) rfl rfl (AF Z4.out _) Tryz.underlying23 rfl (by rw[C0,HO.out.2.1]) rfl ⟨rfl,W4.out.setRow (.inr (Nat.le_refl _)) _⟩
theorem NL {w:World} {v:Value} {x:Pr} (h:Lp w v [x]) (hv:x.val.length≤900000) (d:Int):Calls Tryz.prog 138 #[v,.int .i64 d] w fun e w'=>e=.returned (.agg (AJ (Tag.CZ x.key (Tag.BC x.val))))∧Adds w w':=by
 have hx:=h.good x (List.mem_singleton.2 rfl);obtain⟨g,cap,cur,rfl,_,hg,hsz,hget,_⟩:=h.row.open (fun y hy=>(h.good y hy).key) (by simp)
 have hgt:=hget 0 x rfl;obtain⟨hky,hvv⟩:=Cx hx.key hgt;obtain⟨ao,vc,hvf,_,_⟩:=hx.val.form;obtain⟨vn,hvn⟩:∃vn,vn=x.val.length:=⟨_,rfl⟩
 rw[←hvn] at hvf;have hbv:=hx.val;have hbk:=hx.blk;rw[hvf] at hvv hbv hbk;obtain⟨Z,hZ⟩:∃Z,Z=AJ (List.replicate 32 0):=⟨_,rfl⟩
 have hzh:=IQ;rw[←hZ] at hzh;have hZs:Z.size=32:=by rw[hZ];rfl
 obtain⟨O,hO⟩:∃O,O=AJ (Tag.CZ x.key (Tag.BC x.val)):=⟨_,rfl⟩
 have hos:O.size=32:=by rw[hO,AY];exact Tag.Ab _ _
 have ho1:=Aq (Tag.CZ x.key (Tag.BC x.val));obtain⟨K,hK⟩:∃K,K=AJ x.key:=⟨_,rfl⟩
 obtain⟨D,hD⟩:∃D,D=AJ (Tag.BC x.val):=⟨_,rfl⟩
 have hval:∀w1,Adds w w1→Calls Tryz.prog 211 #[.slice ao vn vc] w1 fun e w'=>e=.returned (.agg D)∧Adds w1 w':=fun w1 a=>by
  rw[hD];exact KU (hbv.Am a (fun _ _ h=>h)) (fun h0 k hk=>Nat.lt_of_lt_of_le (hbk h0 k hk) a.size) (by omega)
 have hleaf:∀w1:World,Calls Tryz.prog 210 #[.agg K,.agg D] w1 fun e w'=>e=.returned (.agg O)∧Adds w1 w':=fun w1=>by
  rw[hK,hD,hO];exact Rp _ _ hx.key (Tag.Ab _ _) w1
 rw[←hO] at ho1 ⊢;rw[←hK] at hky;have hs32:0+32≤cur.size:=by simp at hsz;omega
 have HC:=(hIq hval hleaf)
 have HZ:=(hIq hzh hZs)
 have HO:=(hIq hO (aIq hos ho1))
 have HK:=(hIq hky (aIq hvv (aIq hs32 hg)))
 clear hzh hZs hZ hO hos ho1 hval hleaf hK hD hky hvv hs32 hg hsz hget hgt hx h hvf hvn hbv hbk hv;go_enter Tryz.func138,Tryz.ntmps138;go_upto_region 4 with(first|fail|((with_reducible show zOq (.alloc 23));refine AH rfl 23 rfl (.agg Z) HZ.out.1 ?_;dsimp only[Value.cells];try simp only[World.size_alloc]))
 have a0:Adds w (w.alloc (.cells Z 23)):=(Ch.refl _ _).alloc _;have HW:=(hIq (AM HK.out.2.2.2 (.cells Z 23)) (aIq (heap_alloc_new w (.cells Z 23)) a0))
 clear a0;refine AS (fun wz=>wz.heap[g]?=some (.cells cur 141 (0,0))∧wz.heap[w.heap.size]?=some (.cells Z 23 (0,0))∧Adds w wz) 9 [(0,false),(1,false),(2,false),(3,false),(4,false),(5,false),(6,false),(7,false),(8,true)] (by kernel_rfl) (by kernel_rfl) ?_ ?_
 · exact⟨AQ HW.out.1,AQ HW.out.2.1,HW.out.2.2.drew⟩
 iterate 3
  refine plan_look rfl rfl (fun w0 hS=>(by clear hS;go_simp;try rfl)) ?_;simp only[Act.put,nAq,nBq,nCq]
 refine CQ (cur:=cur) (t:=141) (fr:=(0,0)) rfl rfl 24 _ rfl g 0 32 rfl (fun w0 hS=>hS.1) Tryz.underlying24 rfl Au HK.out.2.2.1 K (by simpa using HK.out.1) ?_;simp only[Act.put,nAq,nBq,nCq]
 iterate 3
  refine plan_look rfl rfl (fun w0 hS=>(by clear hS;go_simp;try rfl)) ?_;simp only[Act.put,nAq,nBq,nCq]
 refine plan_look (v:=.slice ao vn vc) rfl rfl (fun w0 hS=>(by have c:=AG hS.1 (show cur[32]?=some (.slice ao vn vc) by simpa using HK.out.2.1);clear hS;go_simp;try rfl)) ?_;simp only[Act.put,nAq,nBq,nCq];refine Ah rfl ?_;go_wp2_with fail;refine(HC.out.1 _ HW.out.2.2.drew).mono ?_;rintro e wa ⟨rfl,aa⟩;have AA:=(hIq (aa.row (AQ HW.out.1) id) (aIq (aa.row (AQ HW.out.2.1) id) (HW.out.2.2.drew.trans aa (fun _=>fEq))))
 clear aa;dsimp only;go_step;refine wpList_nil ?_;change _∧_;refine⟨AA.out,?_⟩;refine Ae ?_;simp only[List.drop_succ_cons,List.drop_zero];go_wp2_with fail;refine(HC.out.2 _).mono ?_;rintro e w4 ⟨rfl,hc4⟩;have hz4:=hc4.row AA.out.2.1 id;have hw4:=AA.out.2.2.trans hc4 (fun _=>fEq);have Z4:=Lib.hid hz4;have W4:=Lib.hid hw4;clear hc4 hz4 hw4
 go_wp2_with (first
  | fail
  | ((with_reducible show zOq (.store 23 _ _));refine AE rfl 23 _ _ rfl w.heap.size 0 O rfl rfl Z4.out (by rw[C0,HO.out.2.1]) (by rw[HO.out.2.1,HZ.out.2];omega) HO.out.2.2 O (by rw[AI _ _ (by rw[Array.length_toList,Array.length_toList,HO.out.2.1,HZ.out.2])]) ?_))
 refine NoPanic.normal ?_;go_wp2;exact AN (p:=4) rfl rfl (AF Z4.out _) Tryz.underlying23 rfl (by rw[C0,HO.out.2.1]) rfl ⟨rfl,W4.out.setRow (.inr (Nat.le_refl _)) _⟩
theorem TO {w:World} {v:Value} {l:List Pr} (h:Lp w v l) (hl:l.length≤65536) (h2:2≤l.length) (d:Nat) (hd:d<256) {D0 D1:List UInt8} (hD0:D0.length=32) (hD1:D1.length=32)
 (ih0:∀(w1:World) (v1:Value),Lp w1 v1 (Du 0 d l)→Calls Tryz.prog 138 #[v1,.int .i64 ((d:Int)+1)] w1 fun e w'=>e=.returned (.agg (AJ D0))∧Adds w1 w')
 (ih1:∀(w1:World) (v1:Value),Lp w1 v1 (Du 1 d l)→Calls Tryz.prog 138 #[v1,.int .i64 ((d:Int)+1)] w1 fun e w'=>e=.returned (.agg (AJ D1))∧Adds w1 w') :
 Calls Tryz.prog 138 #[v,.int .i64 (d:Int)] w fun e w'=>e=.returned (.agg (AJ (Tag.Cj D0 D1)))∧Adds w w':=by
 obtain⟨q,qc,rfl⟩:=h.row.form;obtain⟨n,hn⟩:∃n,n=l.length:=⟨_,rfl⟩
 rw[←hn] at h h2 ⊢;obtain⟨Z,hZ⟩:∃Z,Z=AJ (List.replicate 32 0):=⟨_,rfl⟩
 have hzh:=IQ;rw[←hZ] at hzh;have hZs:Z.size=32:=by rw[hZ];rfl
 obtain⟨O,hO⟩:∃O,O=AJ (Tag.Cj D0 D1):=⟨_,rfl⟩
 have hos:O.size=32:=by rw[hO,AY];exact Tag.Ab _ _
 have ho1:=Aq (Tag.Cj D0 D1);obtain⟨E0,hE0⟩:∃E,E=AJ D0:=⟨_,rfl⟩
 obtain⟨E1,hE1⟩:∃E,E=AJ D1:=⟨_,rfl⟩
 have hin:∀w1:World,Calls Tryz.prog 212 #[.agg E0,.agg E1] w1 fun e w'=>e=.returned (.agg O)∧Adds w1 w':=fun w1=>by
  rw[hE0,hE1,hO];exact QH _ _ hD0 hD1 w1
 have hs0:∀w1:World,Adds w w1→Calls Tryz.prog 213 #[.slice q n qc,.int .i64 (d:Int),.int .i64 0] w1 fun e w'=>∃v',e=.returned v'∧Lp w' v' (Du 0 d l)∧Adds w1 w':=fun w1 a=>No (h.adds a) hl d hd 0 (by omega)
 have hs1:∀w1:World,Adds w w1→Calls Tryz.prog 213 #[.slice q n qc,.int .i64 (d:Int),.int .i64 1] w1 fun e w'=>∃v',e=.returned v'∧Lp w' v' (Du 1 d l)∧Adds w1 w':=fun w1 a=>No (h.adds a) hl d hd 1 (by omega)
 rw[←hE0] at ih0;rw[←hE1] at ih1;rw[←hO] at ho1 ⊢;have HI:=(hIq ih0 (aIq ih1 hin))
 have HSI:=(hIq hs0 hs1)
 have HZ:=(hIq hzh hZs)
 have HO:=(hIq hO (aIq hos ho1))
 have hn0:¬(n:Int)=0:=by omega
 have hn1:¬(n:Int)=1:=by omega
 have hn0':¬n=0:=by omega
 have hn1':¬n=1:=by omega
 clear hzh hZs hZ hO hos ho1 hin ih0 ih1 hs0 hs1 hE0 hE1 hn h2 hD0 hD1 h hl;go_enter Tryz.func138,Tryz.ntmps138;go_upto_region 5 with(first|fail|((with_reducible show zOq (.alloc 23));refine AH rfl 23 rfl (.agg Z) HZ.out.1 ?_;dsimp only[Value.cells];try simp only[World.size_alloc]))
 have a0:Adds w (w.alloc (.cells Z 23)):=(Ch.refl _ _).alloc _;have HW:=(hIq (heap_alloc_new w (.cells Z 23)) a0)
 clear a0;go_wp2_with fail;refine(HSI.out.1 _ HW.out.2).mono ?_;rintro e w1 ⟨v1,rfl,hl1,a1⟩;obtain⟨q1,c1,rfl⟩:=hl1.row.form;obtain⟨n1,hn1⟩:∃n1,n1=(Du 0 d l).length:=⟨_,rfl⟩
 rw[←hn1] at hl1 ⊢;have H1:=(hIq hl1 (HW.out.2.trans a1 (fun _=>fEq)))
 have R1:=Lib.hid (a1.row HW.out.1 id);clear hl1 a1 hn1;go_wp2_with fail;refine(HI.out.1 _ _ H1.out.1).mono ?_;rintro e w2 ⟨rfl,a2⟩;have H2:=Lib.hid (H1.out.2.trans a2 (fun _=>fEq));have R2:=Lib.hid (a2.row R1.out id);clear a2;go_wp2_with fail;refine(HSI.out.2 _ H2.out).mono ?_;rintro e w3 ⟨v3,rfl,hl3,a3⟩;obtain⟨q3,c3,rfl⟩:=hl3.row.form;obtain⟨n3,hn3⟩:∃n3,n3=(Du 1 d l).length:=⟨_,rfl⟩
 rw[←hn3] at hl3 ⊢;have H3:=(hIq hl3 (H2.out.trans a3 (fun _=>fEq)))
 have R3:=Lib.hid (a3.row R2.out id);clear hl3 a3 hn3;go_wp2_with fail;refine(HI.out.2.1 _ _ H3.out.1).mono ?_;rintro e w4 ⟨rfl,a4⟩;have H4:=Lib.hid (H3.out.2.trans a4 (fun _=>fEq));have R4:=Lib.hid (a4.row R3.out id);clear a4;go_wp2_with fail;refine(HI.out.2.2 _).mono ?_;rintro e w5 ⟨rfl,a5⟩;have Z4:=Lib.hid (a5.row R4.out id);have W4:=Lib.hid (H4.out.trans a5 (fun _=>fEq));clear a5
 go_wp2_with (first
  | fail
  | ((with_reducible show zOq (.store 23 _ _));refine AE rfl 23 _ _ rfl w.heap.size 0 O rfl rfl Z4.out (by rw[C0,HO.out.2.1]) (by rw[HO.out.2.1,HZ.out.2];omega) HO.out.2.2 O (by rw[AI _ _ (by rw[Array.length_toList,Array.length_toList,HO.out.2.1,HZ.out.2])]) ?_))
 exact AN (p:=4) rfl rfl (AF Z4.out _) Tryz.underlying23 rfl (by rw[C0,HO.out.2.1]) rfl ⟨rfl,W4.out.setRow (.inr (Nat.le_refl _)) _⟩
theorem Qt:∀(m d:Nat),d+m=256→∀ {w:World} {v:Value} {l:List Pr} {k:List UInt8},Lp w v l→l.length≤65536→(∀x∈l,x.val.length≤900000)→Bi.Ok (l.map Pr.ent) k d →
 Calls Tryz.prog 138 #[v,.int .i64 (d:Int)] w fun e w'=>e=.returned (.agg (AJ (tree m (l.map Pr.ent)).dig))∧Adds w w':=by
 intro m
 induction m with
 | zero =>
  intro d hd w v l k h hl hv hok;obtain rfl:d=256:=by omega
  have hf:=hok.few;rw[List.length_map] at hf
  match l,h,hv,hf with
  | [],h,_,_=>obtain rfl:=h.nil rfl;exact NK _ w
  | [x],h,hv,_=>exact NL h (hv x (List.mem_singleton.2 rfl)) _
  | _::_::_,_,_,hf=>exact absurd hf (by simp)
 | succ m ih =>
  intro d hd w v l k h hl hv hok;by_cases h2:2≤l.length
  · have hdm:255-m=d:=by omega
    rw[Gb (by rw[List.length_map];exact h2),hdm];obtain⟨k0,hk0⟩:=hok.Qb 0;obtain⟨k1,hk1⟩:=hok.Qb 1;have hsl:∀b,(Du b d l).length≤65536:=fun b=>Nat.le_trans (List.length_filter_le _ _) hl
    have hsv:∀b,∀x∈Du b d l,x.val.length≤900000:=fun b x hx=>hv x (List.mem_filter.1 hx).1
    refine TO h hl h2 d (by omega) (CN _) (CN _) (fun w1 v1 h1=>?_) (fun w1 v1 h1=>?_)
    · rw[←Kg] at hk0 ⊢
      exact ih (d+1) (by omega) h1 (hsl 0) (hsv 0) hk0
    rw[←Kg] at hk1 ⊢;exact ih (d+1) (by omega) h1 (hsl 1) (hsv 1) hk1
  match l,h,hv,h2 with
  | [],h,_,_=>obtain rfl:=h.nil rfl;exact NK _ w
  | [x],h,hv,_=>exact NL h (hv x (List.mem_singleton.2 rfl)) _
  | _::_::_,_,_,h2=>exact absurd (by simp) h2
end Go.Proofs.YtooijgcildbnlaaGreat.Store

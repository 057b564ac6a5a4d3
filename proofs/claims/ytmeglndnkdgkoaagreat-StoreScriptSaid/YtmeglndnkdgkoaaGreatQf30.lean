/- Laws of the layers below. -/
import Derived.Test.YtmeglndnkdgkoaaGreatQf29
set_option maxHeartbeats 3200000
set_option maxRecDepth 100000
set_option linter.unusedVariables false
namespace Go.Proofs.YtmeglndnkdgkoaaGreat.Store
open Go.RowKit Go.Sort Go.Proofs.YtmeglndnkdgkoaaGreat.ShaW Go.Proofs.YtmeglndnkdgkoaaGreat.Path Go.Proofs.YtmeglndnkdgkoaaGreat.Law9
section
variable {w w' : World} {s : Nat} {F : Nat → Prop} {σ : SlabSt Nd}
theorem INode_none (h:At w s F σ) {n:Int} (hk:(nd σ n).kind = 0):Calls Tryz.prog 157 #[.pointer (some ⟨s,0,none⟩),.int .i64 n] w fun e w' => e = .returned (.agg nodeZ) ∧ Adds w w':=by
 have hok:=h.ok n
 have hg:=fun w1 (hc:Adds w w1) => get_ok (h.adds hc) n
 obtain ⟨N,Z,hN,hn,hz⟩:=told h n
 rw [← hN] at hg
 have k0:N[32]? = some (.int .u8 0):=by rw [hN,Nd.at_kind hok,hk]; rfl
 obtain ⟨Y,hY⟩:∃ Y,Y = nodeZ:=⟨_,rfl⟩
 have hyf:=nodeZ_facts
 have hy1:=nodeZ_one
 have hYs:nodeZ.size = 129:=rfl
 rw [← hY] at hyf hy1 hYs ⊢
 have HG:=Lib.hid hg
 have HN:=Lib.hid hn
 have HZ:=Lib.hid hz
 have HY:=(hIq hyf (aIq hYs hy1))
 clear hok hg hN hn hz h hY hyf hYs hy1 hk
 go_enter Tryz.func157,Tryz.ntmps157
 go_wp2_with (first | fail | ((with_reducible show zOq (.alloc 212)); refine wpList_alloc_is rfl 212 rfl (.agg Y) HY.out.1.1 ?_; dsimp only [Value.cells]; try simp only [World.size_alloc]))
 refine (HG.out _ ((Ch.refl _ _).alloc _)).mono ?_; rintro e w1 ⟨rfl,hc1⟩
 have hy1:=hc1.row (heap_alloc_new w (.cells Y 212)) id
 have c0:=row_cell (row_setRow_same (heap_alloc_new w1 (.cells Z 123)) N) k0
 have C1:=Lib.hid (((Ch.refl (fun _ => False) w).alloc (.cells Y 212)).trans hc1 (fun _ => fEq))
 have hlt:=row_lt hy1
 have HY1:=Lib.hid hy1
 clear hc1 hy1 k0
 go_wp2_with (first
  | fail
  | ((with_reducible show zOq (.alloc 123)); refine wpList_alloc_is rfl 123 rfl (.agg Z) HZ.out.1 ?_; dsimp only [Value.cells]; try simp only [World.size_alloc])
  | ((with_reducible show zOq (.store 123 (.tmp 5) _)); go_must (refine wpList_store_part rfl 123 _ _ rfl w1.heap.size 0 N rfl rfl (heap_alloc_new _ _) (by rw [sizeN,HN.out.1]) (by rw [HN.out.1,HZ.out.2]; omega) HN.out.2 N (by rw [splice_all _ _ (by rw [Array.length_toList,Array.length_toList,HN.out.1,HZ.out.2])]) ?_))
  | ((with_reducible show zOq (.build 212 _)); refine wpList_build_none rfl 212 rfl Y HY.out.1.2.2 ?_)
  | ((with_reducible show zOq (.store 212 _ _)); refine wpList_store_part rfl 212 _ _ rfl w.heap.size 0 Y rfl rfl (row_setRow (row_alloc HY1.out _) (by omega) _) (by rw [HY.out.1.2.1,HY.out.2.1]) (by omega) HY.out.2.2 Y (by rw [splice_all _ _ rfl]) ?_))
 have hws:=C1.out.size
 exact bodyPost_ret_cell1 (p:=4) rfl rfl (row_setRow_same (row_setRow (row_alloc HY1.out _) (by omega) _) _) Tryz.underlying212 rfl (by rw [HY.out.1.2.1,HY.out.2.1]) rfl ⟨rfl,((C1.out.alloc _).setRow (.inr hws) _).setRow (.inr (Nat.le_refl _)) _⟩
theorem INode_leaf (h:At w s F σ) {n:Int} (hk:(nd σ n).kind = 1):Calls Tryz.prog 157 #[.pointer (some ⟨s,0,none⟩),.int .i64 n] w fun e w' => e = .returned (.agg (nodeA 1 (nd σ n).key (nd σ n).hash Nd.z32 Nd.z32)) ∧ Adds w w':=by
 have hok:=h.ok n
 have hg:=fun w1 (hc:Adds w w1) => get_ok (h.adds hc) n
 obtain ⟨N,Z,hN,hn,hz⟩:=told h n
 rw [← hN] at hg
 have k0:N[32]? = some (.int .u8 1):=by rw [hN,Nd.at_kind hok,hk]; rfl
 have kk:N.extract 34 (34 + 32) = brow (nd σ n).key:=by rw [hN]; exact Nd.at_key hok
 have kh:N.extract 67 (67 + 32) = brow (nd σ n).hash:=by rw [hN]; exact Nd.at_hash hok
 obtain ⟨Y,hY⟩:∃ Y,Y = nodeZ:=⟨_,rfl⟩
 have hyf:=nodeZ_facts
 have hYs:nodeZ.size = 129:=rfl
 rw [← hY] at hyf hYs
 obtain ⟨O,hO⟩:∃ O,O = nodeA 1 (nd σ n).key (nd σ n).hash Nd.z32 Nd.z32:=⟨_,rfl⟩
 have hOs:O.size = 129 ∧ ∀ v ∈ O.toList,v.oneCell' = true:=by rw [hO]; exact ⟨nodeA_size hok.key hok.hash rfl rfl,nodeA_one _ _ _ _ _⟩
 have hbt:=built_node_leaf (nd σ n).key (nd σ n).hash hok.key hok.hash
 obtain ⟨K,hK⟩:∃ K,K = brow (nd σ n).key:=⟨_,rfl⟩
 obtain ⟨D,hD⟩:∃ D,D = brow (nd σ n).hash:=⟨_,rfl⟩
 rw [← hK] at kk
 rw [← hD] at kh
 rw [← hO, ← hK, ← hD] at hbt
 rw [← hO]
 have HG:=Lib.hid hg
 have HK:=(hIq kk kh)
 have HN:=Lib.hid hn
 have HZ:=Lib.hid hz
 have HY:=(hIq hyf hYs)
 have HO:=(hIq hOs hbt)
 clear hok hg hN hn hz h hY hyf hYs hk hOs hbt hO hK hD kk kh
 go_enter Tryz.func157,Tryz.ntmps157
 go_wp2_with (first | fail | ((with_reducible show zOq (.alloc 212)); refine wpList_alloc_is rfl 212 rfl (.agg Y) HY.out.1.1 ?_; dsimp only [Value.cells]; try simp only [World.size_alloc]))
 refine (HG.out _ ((Ch.refl _ _).alloc _)).mono ?_; rintro e w1 ⟨rfl,hc1⟩
 have hy1:=hc1.row (heap_alloc_new w (.cells Y 212)) id
 have c0:=row_cell (row_setRow_same (heap_alloc_new w1 (.cells Z 123)) N) k0
 have C1:=Lib.hid (((Ch.refl (fun _ => False) w).alloc (.cells Y 212)).trans hc1 (fun _ => fEq))
 have hlt:=row_lt hy1
 have HY1:=Lib.hid hy1
 clear hc1 hy1 k0
 go_wp2_with (first
  | fail
  | ((with_reducible show zOq (.alloc 123)); refine wpList_alloc_is rfl 123 rfl (.agg Z) HZ.out.1 ?_; dsimp only [Value.cells]; try simp only [World.size_alloc])
  | ((with_reducible show zOq (.store 123 (.tmp 5) _)); go_must (refine wpList_store_part rfl 123 _ _ rfl w1.heap.size 0 N rfl rfl (heap_alloc_new _ _) (by rw [sizeN,HN.out.1]) (by rw [HN.out.1,HZ.out.2]; omega) HN.out.2 N (by rw [splice_all _ _ (by rw [Array.length_toList,Array.length_toList,HN.out.1,HZ.out.2])]) ?_))
  | ((with_reducible show zOq (.load 31 _)); refine wpList_load_part rfl 31 _ rfl w1.heap.size 34 rfl (row_setRow_same (heap_alloc_new _ _) _) Tryz.underlying31 rfl sizeP (by rw [HN.out.1]; omega) K HK.out.1 ?_)
  | ((with_reducible show zOq (.load 118 _)); refine wpList_load_part rfl 118 _ rfl w1.heap.size 67 rfl (row_setRow_same (heap_alloc_new _ _) _) Tryz.underlying118 rfl sizeH (by rw [HN.out.1]; omega) D HK.out.2 ?_)
  | ((with_reducible show zOq (.build 212 _)); refine wpList_build_three rfl 212 0 1 2 _ _ _ rfl (.int .u8 1) (.agg K) (.agg D) rfl rfl rfl O HO.out.2 ?_)
  | ((with_reducible show zOq (.store 212 _ _)); refine wpList_store_part rfl 212 _ _ rfl w.heap.size 0 O rfl rfl (row_setRow (row_alloc HY1.out _) (by omega) _) (by rw [HY.out.1.2.1,HO.out.1.1]) (by rw [HO.out.1.1,HY.out.2]; omega) HO.out.1.2 O (by rw [splice_all _ _ (by rw [Array.length_toList,Array.length_toList,HO.out.1.1,HY.out.2])]) ?_))
 have hws:=C1.out.size
 exact bodyPost_ret_cell1 (p:=4) rfl rfl (row_setRow_same (row_setRow (row_alloc HY1.out _) (by omega) _) _) Tryz.underlying212 rfl (by rw [HY.out.1.2.1,HO.out.1.1]) rfl ⟨rfl,((C1.out.alloc _).setRow (.inr hws) _).setRow (.inr (Nat.le_refl _)) _⟩
theorem INode_inner (h:At w s F σ) {n:Int} (hk:(nd σ n).kind = 2):Calls Tryz.prog 157 #[.pointer (some ⟨s,0,none⟩),.int .i64 n] w fun e w' => e = .returned (.agg (nodeA 2 Nd.z32 Nd.z32 (digestOf σ (nd σ n).left) (digestOf σ (nd σ n).right))) ∧ Adds w w':=by
 have hok:=h.ok n
 have hg:=fun w1 (hc:Adds w w1) => get_ok (h.adds hc) n
 obtain ⟨N,Z,hN,hn,hz⟩:=told h n
 rw [← hN] at hg
 have k0:N[32]? = some (.int .u8 2):=by rw [hN,Nd.at_kind hok,hk]; rfl
 have kl:N[99]? = some (.int .i64 (nd σ n).left):=by rw [hN,Nd.at_left hok]
 have kr:N[100]? = some (.int .i64 (nd σ n).right):=by rw [hN,Nd.at_right hok]
 obtain ⟨lf,hlf⟩:∃ lf,lf = (nd σ n).left:=⟨_,rfl⟩
 obtain ⟨rg,hrg⟩:∃ rg,rg = (nd σ n).right:=⟨_,rfl⟩
 rw [← hlf] at kl ⊢
 rw [← hrg] at kr ⊢
 obtain ⟨Y,hY⟩:∃ Y,Y = nodeZ:=⟨_,rfl⟩
 have hyf:=nodeZ_facts
 have hYs:nodeZ.size = 129:=rfl
 rw [← hY] at hyf hYs
 obtain ⟨O,hO⟩:∃ O,O = nodeA 2 Nd.z32 Nd.z32 (digestOf σ lf) (digestOf σ rg):=⟨_,rfl⟩
 have hOs:O.size = 129 ∧ ∀ v ∈ O.toList,v.oneCell' = true:=by rw [hO]; exact ⟨nodeA_size rfl rfl (h.digest_length _) (h.digest_length _),nodeA_one _ _ _ _ _⟩
 have hbt:=built_node_inner (digestOf σ lf) (digestOf σ rg) (h.digest_length _) (h.digest_length _)
 obtain ⟨A,hA⟩:∃ A,A = brow (digestOf σ lf):=⟨_,rfl⟩
 obtain ⟨D,hD⟩:∃ D,D = brow (digestOf σ rg):=⟨_,rfl⟩
 rw [← hO, ← hA, ← hD] at hbt
 have hl:∀ w1,Adds w w1 → Calls Tryz.prog 122 #[.pointer (some ⟨s,0,none⟩),.int .i64 lf] w1 fun e w' => e = .returned (.agg A) ∧ Adds w1 w':=fun w1 a => by
  rw [hA]; exact Digest_ok (h.adds a) lf
 have hr:∀ w1,Adds w w1 → Calls Tryz.prog 122 #[.pointer (some ⟨s,0,none⟩),.int .i64 rg] w1 fun e w' => e = .returned (.agg D) ∧ Adds w1 w':=fun w1 a => by
  rw [hD]; exact Digest_ok (h.adds a) rg
 rw [← hO]
 have HG:=Lib.hid hg
 have HN:=Lib.hid hn
 have HK:=(hIq kl kr)
 have HZ:=Lib.hid hz
 have HY:=(hIq hyf hYs)
 have HO:=(hIq hOs hbt)
 have HV:=(hIq hl hr)
 clear hok hg hN hn hz h hY hyf hYs hk hOs hbt hO hA hD kl kr hlf hrg hl hr
 go_enter Tryz.func157,Tryz.ntmps157
 go_wp2_with (first | fail | ((with_reducible show zOq (.alloc 212)); refine wpList_alloc_is rfl 212 rfl (.agg Y) HY.out.1.1 ?_; dsimp only [Value.cells]; try simp only [World.size_alloc]))
 refine (HG.out _ ((Ch.refl _ _).alloc _)).mono ?_; rintro e w1 ⟨rfl,hc1⟩
 have hyr:=hc1.row (heap_alloc_new w (.cells Y 212)) id
 have c0:=row_cell (row_setRow_same (heap_alloc_new w1 (.cells Z 123)) N) k0
 have C1:=Lib.hid (((Ch.refl (fun _ => False) w).alloc (.cells Y 212)).trans hc1 (fun _ => fEq))
 have hlt:=row_lt hyr
 have HY1:=Lib.hid hyr
 clear hc1 hyr k0
 go_upto_region 6 with (first
  | fail
  | ((with_reducible show zOq (.alloc 123)); refine wpList_alloc_is rfl 123 rfl (.agg Z) HZ.out.1 ?_; dsimp only [Value.cells]; try simp only [World.size_alloc])
  | ((with_reducible show zOq (.store 123 (.tmp 5) _)); go_must (refine wpList_store_part rfl 123 _ _ rfl w1.heap.size 0 N rfl rfl (heap_alloc_new _ _) (by rw [sizeN,HN.out.1]) (by rw [HN.out.1,HZ.out.2]; omega) HN.out.2 N (by rw [splice_all _ _ (by rw [Array.length_toList,Array.length_toList,HN.out.1,HZ.out.2])]) ?_)))
 have r1:((w1.alloc (.cells Z 123)).setRow w1.heap.size N).heap[w1.heap.size]? = some (.cells N 123 (0,0)):=row_setRow_same (heap_alloc_new _ _) _
 have r2:((w1.alloc (.cells Z 123)).setRow w1.heap.size N).heap[w.heap.size]? = some (.cells Y 212 (0,0)):=row_setRow (row_alloc HY1.out _) (by omega) _
 have a2:Adds w ((w1.alloc (.cells Z 123)).setRow w1.heap.size N):=(C1.out.alloc _).setRow (.inr C1.out.size) _
 obtain ⟨w2,hw2⟩:∃ w2,w2 = (w1.alloc (.cells Z 123)).setRow w1.heap.size N:=⟨_,rfl⟩
 obtain ⟨B,hB⟩:∃ B,B = w1.heap.size:=⟨_,rfl⟩
 rw [← hw2] at r1 r2 a2 ⊢
 rw [← hB] at r1 ⊢
 have HW:=(hIq r1 (aIq r2 a2))
 clear r1 r2 a2 hw2 c0 hlt hB
 refine wp_region_plan (fun wz => wz.heap[B]? = some (.cells N 123 (0,0)) ∧ wz.heap[w.heap.size]? = some (.cells Y 212 (0,0)) ∧ Adds w wz) 8 [(0,false),(1,false),(2,false),(4,false),(5,false),(6,false),(3,true),(7,true)] (by kernel_rfl) (by kernel_rfl) ?_ ?_
 · exact ⟨row_drew HW.out.1,row_drew HW.out.2.1,HW.out.2.2.drew⟩
 iterate 2
  refine plan_look rfl rfl (fun w0 hS => (by clear hS; go_simp; try rfl)) ?_
  simp only [Act.put,nAq,nBq,nCq]
 refine plan_look (v:=.int .i64 lf) rfl rfl (fun w0 hS => (by have c:=row_cell hS.1 HK.out.1; clear hS; go_simp; try rfl)) ?_
 simp only [Act.put,nAq,nBq,nCq]
 iterate 2
  refine plan_look rfl rfl (fun w0 hS => (by clear hS; go_simp; try rfl)) ?_
  simp only [Act.put,nAq,nBq,nCq]
 refine plan_look (v:=.int .i64 rg) rfl rfl (fun w0 hS => (by have c:=row_cell hS.1 HK.out.2; clear hS; go_simp; try rfl)) ?_
 simp only [Act.put,nAq,nBq,nCq]
 refine plan_do rfl ?_
 go_wp2_with fail
 refine (HV.out.1 _ HW.out.2.2.drew).mono ?_; rintro e wa ⟨rfl,aa⟩
 have AA:=(hIq (aa.row (row_drew HW.out.1) id) (aIq (aa.row (row_drew HW.out.2.1) id) (HW.out.2.2.drew.trans aa (fun _ => fEq))))
 clear aa
 dsimp only
 go_step
 refine wpList_nil ?_
 change _ ∧ _
 refine ⟨AA.out,?_⟩
 refine plan_do rfl ?_
 go_wp2_with fail
 refine (HV.out.2 _ AA.out.2.2).mono ?_; rintro e wb ⟨rfl,ab⟩
 have AB:=(hIq (ab.row AA.out.1 id) (aIq (ab.row AA.out.2.1 id) (AA.out.2.2.trans ab (fun _ => fEq))))
 clear ab
 dsimp only
 go_step
 refine wpList_nil ?_
 change _ ∧ _
 refine ⟨AB.out,?_⟩
 refine plan_end ?_; simp only [List.drop_succ_cons,List.drop_zero]
 have hlt:=row_lt AB.out.2.1
 go_wp2_with (first
  | fail
  | ((with_reducible show zOq (.build 212 _)); refine wpList_build_three rfl 212 0 3 4 _ _ _ rfl (.int .u8 2) (.agg A) (.agg D) rfl rfl rfl O HO.out.2 ?_)
  | ((with_reducible show zOq (.store 212 _ _)); refine wpList_store_part rfl 212 _ _ rfl w.heap.size 0 O rfl rfl AB.out.2.1 (by rw [HY.out.1.2.1,HO.out.1.1]) (by rw [HO.out.1.1,HY.out.2]; omega) HO.out.1.2 O (by rw [splice_all _ _ (by rw [Array.length_toList,Array.length_toList,HO.out.1.1,HY.out.2])]) ?_))
 refine NoPanic.normal ?_
 go_wp2
 exact bodyPost_ret_cell1 (p:=4) rfl rfl (row_setRow_same AB.out.2.1 _) Tryz.underlying212 rfl (by rw [HY.out.1.2.1,HO.out.1.1]) rfl ⟨rfl,AB.out.2.2.setRow (.inr (Nat.le_refl _)) _⟩
theorem Node_ok (h:At w s F σ) (G:Good σ) (n:Int):Calls Tryz.prog 157 #[.pointer (some ⟨s,0,none⟩),.int .i64 n] w fun e w' => e = .returned (.agg (nodeOf σ n)) ∧ Adds w w':=by
 unfold nodeOf
 by_cases h1:(nd σ n).kind = 1
 · rw [if_pos h1]
   exact INode_leaf h h1
 rw [if_neg h1]
 by_cases h2:(nd σ n).kind = 2
 · rw [if_pos h2]
   exact INode_inner h h2
 rw [if_neg h2]
 refine INode_none h ?_
 cases hs:σ.get? n with
 | none => rw [nd_none hs]; rfl
 | some x =>
  rw [nd_some hs] at h1 h2
  exact absurd (G.fit.leaf (sk_some hs) h2).1 h1
theorem nodeOf_eql (h:At w s F σ) (n:Int) (w0:World):(Go.binOp BinOp.eql 212 (.agg (nodeOf σ n)) (.agg (nodeOf σ n))).run Tryz.prog w0 = .ok (.bool true) w0:=by
 have hok:=h.ok n
 unfold nodeOf
 split
 · exact node_same hok.key hok.hash rfl rfl w0
 split
 · exact node_same rfl rfl (h.digest_length _) (h.digest_length _) w0
 rw [nodeZ_A]; exact node_same rfl rfl rfl rfl w0
end
section
variable {w0 w w' : World} {s b : Nat} {F G : Nat → Prop} {σ : SlabSt Nd}
theorem ROw.digestR (h:ROw w0 w b σ G) (GG:Good σ) (n:Int):Calls Tryz.prog 125 #[.pointer (some ⟨b,0,none⟩),.int .i64 n] w fun e w' => e = .returned (.agg (brow (digestOf σ n))) ∧ Adds w w':=by
 obtain ⟨ρ,F,h1,L,_⟩:=h
 exact RDigest_ok h1 L GG n
theorem ROw.nodeR (h:ROw w0 w b σ G) (GG:Good σ) (n:Int):Calls Tryz.prog 158 #[.pointer (some ⟨b,0,none⟩),.int .i64 n] w fun e w' => e = .returned (.agg (nodeOf σ n)) ∧ Adds w w':=by
 obtain ⟨ρ,F,h1,L,_⟩:=h
 exact RNode_ok h1 L GG n
theorem LookD_ok (hA:At w s F σ) (hR:ROw w0 w b σ G) (GG:Good σ) (n:Int) :
 Calls Tryz.prog 70 #[.pointer (some ⟨s,0,none⟩),.pointer (some ⟨b,0,none⟩),.int .i64 n,.bool true] w fun e w' => e = .returned (.bool true) ∧ Adds w w':=by
 have iHas:=fun w1 (a:Adds w w1) => Has_ok (hA.adds a) n
 have rHas:=fun w1 (a:Adds w w1) => (hR.adds a).hasR GG n
 have iKind:=fun w1 (a:Adds w w1) => Kind_ok (hA.adds a) n
 have rKind:=fun w1 (a:Adds w w1) => (hR.adds a).kind GG n
 have iDepth:=fun w1 (a:Adds w w1) => Depth_ok (hA.adds a) n
 have rDepth:=fun w1 (a:Adds w w1) => (hR.adds a).depthR GG n
 have iSize:=fun w1 (a:Adds w w1) => Size_ok (hA.adds a) n
 have rSize:=fun w1 (a:Adds w w1) => (hR.adds a).sizeR GG n
 have iCount:=fun w1 (a:Adds w w1) => (show Calls Tryz.prog 117 #[.pointer (some ⟨s,0,none⟩),.int .i64 n] w1 (fun e w' => e = .returned (.int .i64 (σ.count n:Nat)) ∧ Adds w1 w') from (Count_ok (hA.adds a) n).mono fun e w' ⟨he,hw⟩ => ⟨he,hw ▸ Ch.refl _ _⟩)
 have rCount:=fun w1 (a:Adds w w1) => (hR.adds a).countR GG n
 have iHeld:=fun w1 (a:Adds w w1) => Held_ok (hA.adds a) n
 have rHeld:=fun w1 (a:Adds w w1) => (hR.adds a).heldR GG n
 have iRoot:=fun w1 (a:Adds w w1) => Root_ok (hA.adds a) n
 have rRoot:=fun w1 (a:Adds w w1) => (hR.adds a).root GG n
 have iKey:=fun w1 (a:Adds w w1) => Key_ok (hA.adds a) n
 have rKey:=fun w1 (a:Adds w w1) => (hR.adds a).keyR GG n
 have iSd:=fun w1 (a:Adds w w1) => Sides_ok (hA.adds a) n
 have rSd:=fun w1 (a:Adds w w1) => (hR.adds a).sides GG n
 have iVl:=fun w1 (a:Adds w w1) => Value_row (hA.adds a) n
 have rVl:=fun w1 (a:Adds w w1) => (hR.adds a).value GG n
 have iDg:=fun w1 (a:Adds w w1) => Digest_ok (hA.adds a) n
 have rDg:=fun w1 (a:Adds w w1) => (hR.adds a).digestR GG n
 have iNd:=fun w1 (a:Adds w w1) => Node_ok (hA.adds a) GG n
 have rNd:=fun w1 (a:Adds w w1) => (hR.adds a).nodeR GG n
 have hdl:=hA.digest_length n
 have hdeq:=eql_keys 118 Tryz.underlying118 (digestOf σ n) (digestOf σ n) hdl hdl
 rw [decide_eq_true rfl] at hdeq
 have hndq:=nodeOf_eql hA n
 obtain ⟨DD,hDD⟩:∃ x,x = brow (digestOf σ n):=⟨_,rfl⟩
 rw [← hDD] at iDg rDg hdeq
 obtain ⟨NN,hNN⟩:∃ x,x = nodeOf σ n:=⟨_,rfl⟩
 rw [← hNN] at iNd rNd hndq
 have IDg:=Lib.hid iDg
 have RDg:=Lib.hid rDg
 have INd:=Lib.hid iNd
 have RNd:=Lib.hid rNd
 clear iDg rDg iNd rNd hdl hDD hNN
 have hkl:(nd σ n).key.length = 32:=(hA.ok n).key
 have hneq:=neq_keys 31 Tryz.underlying31 (nd σ n).key (nd σ n).key hkl hkl
 rw [decide_eq_true rfl,Bool.not_true] at hneq
 have hvl:=(hA.ok n).val
 obtain ⟨hb,hhb⟩:∃ x,x = has σ n:=⟨_,rfl⟩
 rw [← hhb] at iHas rHas
 obtain ⟨kd,hkd⟩:∃ x,x = (nd σ n).kind:=⟨_,rfl⟩
 rw [← hkd] at iKind rKind
 obtain ⟨dp,hdp⟩:∃ x,x = depth σ n:=⟨_,rfl⟩
 rw [← hdp] at iDepth rDepth
 obtain ⟨sz,hsz⟩:∃ x,x = (nd σ n).size:=⟨_,rfl⟩
 rw [← hsz] at iSize rSize
 obtain ⟨ct,hct⟩:∃ x,x = ((σ.count n:Nat):Int):=⟨_,rfl⟩
 rw [← hct] at iCount rCount
 obtain ⟨hd,hhd⟩:∃ x,x = (nd σ n).held:=⟨_,rfl⟩
 rw [← hhd] at iHeld rHeld
 obtain ⟨rt,hrt⟩:∃ x,x = rootErr σ n:=⟨_,rfl⟩
 rw [← hrt] at iRoot rRoot
 obtain ⟨K,hK⟩:∃ x,x = brow (nd σ n).key:=⟨_,rfl⟩
 rw [← hK] at iKey rKey hneq
 obtain ⟨lf,hlf⟩:∃ x,x = (nd σ n).left:=⟨_,rfl⟩
 obtain ⟨rg,hrg⟩:∃ x,x = (nd σ n).right:=⟨_,rfl⟩
 rw [← hlf, ← hrg] at iSd rSd
 obtain ⟨bs,hbs⟩:∃ x,x = (nd σ n).value:=⟨_,rfl⟩
 rw [← hbs] at iVl rVl hvl
 have IHas:=Lib.hid iHas
 have RHas:=Lib.hid rHas
 have IKind:=Lib.hid iKind
 have RKind:=Lib.hid rKind
 have IDepth:=Lib.hid iDepth
 have RDepth:=Lib.hid rDepth
 have ISize:=Lib.hid iSize
 have RSize:=Lib.hid rSize
 have ICount:=Lib.hid iCount
 have RCount:=Lib.hid rCount
 have IHeld:=Lib.hid iHeld
 have RHeld:=Lib.hid rHeld
 have IRoot:=Lib.hid iRoot
 have RRoot:=Lib.hid rRoot
 have IKey:=Lib.hid iKey
 have RKey:=Lib.hid rKey
 have ISd:=Lib.hid iSd
 have RSd:=Lib.hid rSd
 have IVl:=Lib.hid iVl
 have RVl:=Lib.hid rVl
 have HVL:=Lib.hid hvl
 have A0:=Lib.hid (Ch.refl (fun _ => False) w)
 clear iHas rHas hhb iKind rKind hkd iDepth rDepth hdp iSize rSize hsz iCount rCount hct iHeld rHeld hhd iRoot rRoot hrt iKey rKey hK iSd rSd iVl rVl hkl hlf hrg hbs hvl hA hR GG
 go_enter Tryz.func70,Tryz.ntmps70
 go_wp2_with fail
 refine (IHas.out _ A0.out).mono ?_; rintro e w1 ⟨rfl,a⟩
 have A1:=Lib.hid (A0.out.trans a (fun _ => fEq))
 clear a
 go_wp2_with fail
 refine (RHas.out _ A1.out).mono ?_; rintro e w2 ⟨rfl,a⟩
 have A2:=Lib.hid (A1.out.trans a (fun _ => fEq))
 clear a
 go_wp2_with fail
 refine (IKind.out _ A2.out).mono ?_; rintro e w3 ⟨rfl,a⟩
 have A3:=Lib.hid (A2.out.trans a (fun _ => fEq))
 clear a
 go_wp2_with fail
 refine (RKind.out _ A3.out).mono ?_; rintro e w4 ⟨rfl,a⟩
 have A4:=Lib.hid (A3.out.trans a (fun _ => fEq))
 clear a
 go_wp2_with fail
 refine (IDepth.out _ A4.out).mono ?_; rintro e w5 ⟨rfl,a⟩
 have A5:=Lib.hid (A4.out.trans a (fun _ => fEq))
 clear a
 go_wp2_with fail
 refine (RDepth.out _ A5.out).mono ?_; rintro e w6 ⟨rfl,a⟩
 have A6:=Lib.hid (A5.out.trans a (fun _ => fEq))
 clear a
 go_wp2_with fail
 refine (ISize.out _ A6.out).mono ?_; rintro e w7 ⟨rfl,a⟩
 have A7:=Lib.hid (A6.out.trans a (fun _ => fEq))
 clear a
 go_wp2_with fail
 refine (RSize.out _ A7.out).mono ?_; rintro e w8 ⟨rfl,a⟩
 have A8:=Lib.hid (A7.out.trans a (fun _ => fEq))
 clear a
 go_wp2_with fail
 refine (ICount.out _ A8.out).mono ?_; rintro e w9 ⟨rfl,a⟩
 have A9:=Lib.hid (A8.out.trans a (fun _ => fEq))
 clear a
 go_wp2_with fail
 refine (RCount.out _ A9.out).mono ?_; rintro e w10 ⟨rfl,a⟩
 have A10:=Lib.hid (A9.out.trans a (fun _ => fEq))
 clear a
 go_wp2_with fail
 refine (IHeld.out _ A10.out).mono ?_; rintro e w11 ⟨rfl,a⟩
 have A11:=Lib.hid (A10.out.trans a (fun _ => fEq))
 clear a
 go_wp2_with fail
 refine (RHeld.out _ A11.out).mono ?_; rintro e w12 ⟨rfl,a⟩
 have A12:=Lib.hid (A11.out.trans a (fun _ => fEq))
 clear a
 go_wp2_with fail
 refine (IRoot.out _ A12.out).mono ?_; rintro e w13 ⟨rfl,a⟩
 have A13:=Lib.hid (A12.out.trans a (fun _ => fEq))
 clear a
 go_wp2_with fail
 refine (RRoot.out _ A13.out).mono ?_; rintro e w14 ⟨rfl,a⟩
 have A14:=Lib.hid (A13.out.trans a (fun _ => fEq))
 clear a
 go_wp2_with fail
 refine (IKey.out _ A14.out).mono ?_; rintro e w15 ⟨rfl,a⟩
 have A15:=Lib.hid (A14.out.trans a (fun _ => fEq))
 clear a
 go_wp2_with fail
 refine (RKey.out _ A15.out).mono ?_; rintro e w16 ⟨rfl,a⟩
 have A16:=Lib.hid (A15.out.trans a (fun _ => fEq))
 clear a
 go_wp2_with fail
 refine (ISd.out _ A16.out).mono ?_; rintro e w17 ⟨rfl,a⟩
 have A17:=Lib.hid (A16.out.trans a (fun _ => fEq))
 clear a
 go_wp2_with fail
 refine (RSd.out _ A17.out).mono ?_; rintro e w18 ⟨rfl,a⟩
 have A18:=Lib.hid (A17.out.trans a (fun _ => fEq))
 clear a
 go_wp2_with fail
 refine (IVl.out _ A18.out).mono ?_; rintro e wu ⟨u,rfl,hu,a⟩
 have AU:=Lib.hid (A18.out.trans a (fun _ => fEq))
 obtain ⟨uo,uc,rfl,_⟩:=hu.bytes.form
 have HU:=Lib.hid hu
 clear a hu
 go_wp2_with fail
 refine (IVl.out _ AU.out).mono ?_; rintro e wv ⟨v,rfl,hv,a⟩
 have AV:=(hIq (AU.out.trans a (fun _ => fEq)) a)
 obtain ⟨vo,vc,rfl,_⟩:=hv.bytes.form
 have HV:=Lib.hid hv
 clear a hv
 go_wp2_with fail
 refine (RVl.out _ AV.out.1).mono ?_; rintro e wr ⟨x,rfl,hx,_,a⟩
 obtain ⟨xo,xc,rfl,_⟩:=hx.form
 have AR:=(hIq (AV.out.1.trans a (fun _ => fEq)) (aIq a hx))
 clear a hx
 have hsb:=SameBytes_ok ((HU.out.bytes.keep AV.out.2 (fun _ _ h => h)).keep AR.out.2.1 (fun _ _ h => h)) AR.out.2.2
 rw [decide_eq_true rfl] at hsb
 have HSB:=Lib.hid hsb
 clear hsb
 go_wp2_with fail
 refine HSB.out.mono ?_; rintro e wq ⟨rfl,hwq⟩
 subst hwq
 go_wp2_with fail
 have aw:Adds w (wq.alloc (.cells #[.slice uo bs.length uc,.slice vo bs.length vc] 32)):=AR.out.1.alloc _
 have aqu:Adds wu (wq.alloc (.cells #[.slice uo bs.length uc,.slice vo bs.length vc] 32)):=(AV.out.2.trans AR.out.2.1 (fun _ => fEq)).alloc _
 have aqv:Adds wv (wq.alloc (.cells #[.slice uo bs.length uc,.slice vo bs.length vc] 32)):=AR.out.2.1.alloc _
 obtain ⟨au,hau⟩:=(HU.out.keep aqu (fun _ _ h => h)).whole
 obtain ⟨av,hav⟩:=(HV.out.keep aqv (fun _ _ h => h)).whole
 have lu:=fun k hk => HU.out.lt k hk
 have lv:=fun k hk => HV.out.lt k hk
 have zz:=(AV.out.2.trans AR.out.2.1 (fun _ => fEq)).size
 have zv:=AR.out.2.1.size
 have zu:=AU.out.size
 have hLs:LsAt (fun j => if j = 0 then .slice uo bs.length uc else .slice vo bs.length vc) (fun j => if j = 0 then au else av) wq.heap.size (wq.alloc (.cells #[.slice uo bs.length uc,.slice vo bs.length vc] 32)):=by
  refine ⟨fun j hj => ?_,heap_alloc_new _ _⟩
  have:j = 0 ∨ j = 1:=by omega
  rcases this with rfl | rfl
  · exact hau
  exact hav
 have hap:=Apart_ok hLs (fun i j k hi hj hij h1 h2 => by
  have hi':i = 0 ∨ i = 1:=by omega
  have hj':j = 0 ∨ j = 1:=by omega
  rcases hi' with rfl | rfl <;> rcases hj' with rfl | rfl
  · exact hij rfl
  · have:=lu k h1; have:=lv k h2; omega
  · have:=lv k h1; have:=lu k h2; omega
  · exact hij rfl) (fun j hj h1 => by
  have hj':j = 0 ∨ j = 1:=by omega
  rcases hj' with rfl | rfl
  · have:=lu _ h1; omega
  have:=lv _ h1; omega)
 have HAP:=Lib.hid hap
 have HLT:=(hIq lu (aIq lv (aIq zu aw)))
 clear hap hLs hau hav lu lv zz zv zu aw aqu aqv
 refine HAP.out.mono ?_; rintro e wp ⟨rfl,cp,bf',hL'⟩
 have ap:Adds w wp:=HLT.out.2.2.2.trans cp (fun k hk => by
  obtain ⟨j,hj,hk⟩:=hk
  have hj':j = 0 ∨ j = 1:=by omega
  have h3:=HLT.out.2.2.1
  rcases hj' with rfl | rfl
  · have:=(HLT.out.1 k hk).1
    have h4:=A18.out.size
    exact .inr (by omega)
  have:=(HLT.out.2.1 k hk).1
  exact .inr (by omega))
 have hov:=OverAll_ok (hL'.1 0 (by omega))
 have HOV:=Lib.hid hov
 have AP:=Lib.hid ap
 clear hov hL' cp ap
 go_wp2_with fail
 refine HOV.out.mono ?_; rintro e wo ⟨⟨uu,rfl⟩,co,_⟩
 have AO:=Lib.hid (AP.out.trans co (fun k hk => .inr (by
  have:=(HLT.out.1 k hk).1
  have h4:=A18.out.size
  omega)))
 clear co
 go_wp2_with fail
 refine (IVl.out _ AO.out).mono ?_; rintro e wx ⟨y,rfl,hy,a⟩
 obtain ⟨yo,yc,rfl,_⟩:=hy.bytes.form
 have AX:=(hIq (AO.out.trans a (fun _ => fEq)) hy.bytes)
 clear a hy
 go_wp2_with fail
 refine (RVl.out _ AX.out.1).mono ?_; rintro e wz ⟨z,rfl,hz,_,a⟩
 obtain ⟨zo,zc,rfl,_⟩:=hz.form
 have hsb2:=SameBytes_ok (AX.out.2.keep a (fun _ _ h => h)) hz
 rw [decide_eq_true rfl] at hsb2
 have AZ:=Lib.hid (AX.out.1.trans a (fun _ => fEq))
 have HSB2:=Lib.hid hsb2
 clear a hz hsb2
 go_wp2_with fail
 refine HSB2.out.mono ?_; rintro e wy ⟨rfl,hwy⟩
 subst hwy
 go_wp2_with fail
 refine (IDg.out _ AZ.out).mono ?_; rintro e wd1 ⟨rfl,a⟩
 have B1:=Lib.hid (AZ.out.trans a (fun _ => fEq))
 clear a
 go_wp2_with fail
 refine (RDg.out _ B1.out).mono ?_; rintro e wd2 ⟨rfl,a⟩
 have B2:=Lib.hid (B1.out.trans a (fun _ => fEq))
 clear a
 go_wp2_with fail
 refine (INd.out _ B2.out).mono ?_; rintro e wd3 ⟨rfl,a⟩
 have B3:=Lib.hid (B2.out.trans a (fun _ => fEq))
 clear a
 go_wp2_with fail
 refine (RNd.out _ B3.out).mono ?_; rintro e wd4 ⟨rfl,a⟩
 have B4:=Lib.hid (B3.out.trans a (fun _ => fEq))
 clear a
 go_wp2
 go_ret
 exact ⟨rfl,B4.out⟩
end
end Go.Proofs.YtmeglndnkdgkoaaGreat.Store
namespace Go.Proofs.YtmeglndnkdgkoaaGreat.Store
open Go.RowKit Go.Proofs.YtmeglndnkdgkoaaGreat.ShaW Go.Proofs.YtmeglndnkdgkoaaGreat.Path Go.Proofs.YtmeglndnkdgkoaaGreat.Law9
section
variable {w0 w w' : World} {s b : Nat} {F G : Nat → Prop} {σ : SlabSt Nd}
theorem ints_cell {w:World} {b1 n:Nat} {ao:Option Addr} {c:Nat} {l:List Nat} (h:w.ownsRow b1 3 1 (.slice ao n c) n (ints l)) {k:Nat} (hk:k < n):∃ g x,ao = some ⟨g,0,none⟩ ∧ l[k]? = some x ∧ w.cell? ⟨g,k,none⟩ = some (.int .i64 (x:Nat)):=by
 have hl:(ints l).length = n * 1:=h.1
 rw [show (ints l).length = l.length by simp [ints]] at hl
 obtain ⟨x,hx⟩:∃ x,l[k]? = some x:=⟨_,List.getElem?_eq_getElem (by omega)⟩
 obtain ⟨g,cap,cur,e,hg,h1,h2,h3,h4⟩:=owns_block h (by omega)
 injection e with e1 _ _
 refine ⟨g,x,e1,hx,row_cell hg (take_get h4 ?_)⟩
 simp [ints,hx]
theorem SameNums_ok {w:World} {b1 b2 n:Nat} {v1 v2:Value} {l:List Nat} (h1:w.ownsRow b1 3 1 v1 n (ints l)) (h2:w.ownsRow b2 3 1 v2 n (ints l)) (hn:n ≤ 65536) :
 Calls Tryz.prog 56 #[v1,v2] w fun e w' => e = .returned (.bool true) ∧ Adds w w':=by
 obtain ⟨a1,c1,e1⟩:=owns_form h1
 obtain ⟨a2,c2,e2⟩:=owns_form h2
 subst e1
 subst e2
 have H:=(hIq h1 h2)
 have hn':(n:Int) ≤ 65536:=by omega
 clear h1 h2
 go_enter Tryz.func56,Tryz.ntmps56
 go_wp2
 go_loopg [5] n (fun g s5 wr => ∃ k:Nat,k ≤ n ∧ g = n - k ∧ s5 = .int .i64 k ∧ Adds w wr)
 case atStart => exact ⟨0,Nat.zero_le _,rfl,rfl,Ch.refl _ _⟩
 obtain ⟨k,hk,rfl,rfl,hA⟩:=hrel
 by_cases hkl:k < n
 · obtain ⟨g1,x,rfl,hx,f1⟩:=ints_cell H.out.1 hkl
   obtain ⟨g2,x2,rfl,hx2,f2⟩:=ints_cell H.out.2 hkl
   rw [hx] at hx2
   cases hx2
   have f1:=hA.cell f1 id
   have f2:=hA.cell f2 id
   have hkz:(k:Int) < (n:Int):=by omega
   have HA:=Lib.hid hA
   clear hA hx
   go_wp2
   refine wp_region_plan (fun w0 => w0 = (wr).drew) 9 [(0,false),(1,false),(2,false),(3,false),(4,false),(5,false),(6,false),(7,false),(8,false)] (by kernel_rfl) (by kernel_rfl) rfl ?_
   iterate 9 refine plan_look rfl rfl (fun w0 hS => (by subst hS; go_simp; try rfl)) ?_
   refine plan_end ?_
   simp only [List.drop_succ_cons,List.drop_zero,Act.put,List.setIfInBounds_toArray,List.set_cons_succ,List.set_cons_zero]
   go_wp2
   refine NoPanic.normal ?_
   go_wp2
   go_roundg (n - (k + 1))
   case measure => omega
   exact ⟨k + 1,by omega,rfl,by go_num,HA.out.drew⟩
 obtain rfl:k = n:=by omega
 have HA:=Lib.hid hA
 clear hA
 go_wp2
 go_ret
 exact ⟨rfl,HA.out⟩
end
section
variable {w0 w w' : World} {s b : Nat} {F G : Nat → Prop} {σ : SlabSt Nd}
theorem SameD_ok (hA:At w s F σ) (hR:ROw w0 w b σ G) (GG:Good σ) :
 Calls Tryz.prog 18 #[.pointer (some ⟨s,0,none⟩),.pointer (some ⟨b,0,none⟩),.bool true] w fun e w' => e = .returned (.bool true) ∧ Adds w w':=by
 have hHd:=fun w1 (a:Adds w w1) => Handles_ok (hA.adds a)
 have hOc:=fun w1 (a:Adds w w1) => Occupied_ok (hA.adds a)
 have hRm:=fun w1 (a:Adds w w1) => Room_ok (hA.adds a)
 have rHd:=fun w1 (a:Adds w w1) => (hR.adds a).handles GG
 have rOc:=fun w1 (a:Adds w w1) => (hR.adds a).occupied GG
 have rRm:=fun w1 (a:Adds w w1) => (hR.adds a).room
 have hLk:=fun w1 (a:Adds w w1) n => LookD_ok (hA.adds a) (hR.adds a) GG n
 have hrow:∃ ns,ns ≤ 65536 ∧ ∀ w1,Adds w w1 → ∃ ao cap,w1.cell? ⟨b,2,none⟩ = some (.slice ao ns cap):=by
  obtain ⟨ρ,F2,h1,L,_⟩:=hR
  refine ⟨ρ.spots.length,by have:=h1.1.len; have:=h1.1.space; omega,fun w1 a => ?_⟩
  obtain ⟨ao,cap,vf,hb⟩:=(h1.adds a).head
  exact ⟨ao,cap,row_cell hb rfl⟩
 obtain ⟨ns,hns,hrow⟩:=hrow
 have hl65:(handles σ).length ≤ 65536:=by
  have h1:=handles_length (σ:=σ)
  have h2:=live_used GG.sound.wf
  have:=(hA.used_le).1
  omega
 obtain ⟨us,hus⟩:∃ x,x = σ.used:=⟨_,rfl⟩
 obtain ⟨rm,hrm⟩:∃ x,x = σ.room:=⟨_,rfl⟩
 obtain ⟨l,hl⟩:∃ l,l = handles σ:=⟨_,rfl⟩
 rw [← hl] at hHd rHd hl65
 obtain ⟨n,hn⟩:∃ n,n = l.length:=⟨_,rfl⟩
 rw [← hn] at hHd rHd hl65
 rw [← hus] at hOc rOc
 rw [← hrm] at hRm rRm
 have HHd:=Lib.hid hHd
 have HOc:=Lib.hid hOc
 have HRm:=Lib.hid hRm
 have THd:=Lib.hid rHd
 have TOc:=Lib.hid rOc
 have TRm:=Lib.hid rRm
 have HLk:=Lib.hid hLk
 have HRow:=Lib.hid hrow
 have A0:=Lib.hid (Ch.refl (fun _ => False) w)
 clear hHd hOc hRm rHd rOc rRm hLk hrow hus hrm hl hn hA hR GG
 go_enter Tryz.func18,Tryz.ntmps18
 go_wp2_with fail
 refine (HHd.out _ A0.out).mono ?_; rintro e w1 ⟨v1,rfl,o1,a1⟩
 obtain ⟨b1,c1,rfl⟩:=owns_form o1
 have H1:=(hIq o1 (A0.out.trans a1 (fun _ => fEq)))
 clear o1 a1
 go_wp2_with fail
 refine (HHd.out _ H1.out.2).mono ?_; rintro e w2 ⟨v2,rfl,o2,a2⟩
 obtain ⟨b2,c2,rfl⟩:=owns_form o2
 have H2:=(hIq (a2.owns H1.out.1 (fun _ _ h => h)) (aIq o2 (H1.out.2.trans a2 (fun _ => fEq))))
 clear o2 a2
 go_wp2_with fail
 refine (HOc.out _ H2.out.2.2).mono ?_; rintro e w3 ⟨rfl,rfl⟩
 go_wp2_with fail
 refine (TOc.out _ H2.out.2.2).mono ?_; rintro e w4 ⟨rfl,a4⟩
 have H4:=(hIq (a4.owns H2.out.1 (fun _ _ h => h)) (aIq (a4.owns H2.out.2.1 (fun _ _ h => h)) (H2.out.2.2.trans a4 (fun _ => fEq))))
 clear a4
 go_wp2_with fail
 refine (HRm.out _ H4.out.2.2).mono ?_; rintro e w5 ⟨rfl,rfl⟩
 go_wp2_with fail
 refine (TRm.out _ H4.out.2.2).mono ?_; rintro e w5 ⟨rfl,rfl⟩
 go_wp2_with fail
 refine (THd.out _ H4.out.2.2).mono ?_; rintro e w6 ⟨v6,rfl,o6,a6⟩
 obtain ⟨b6,c6,rfl⟩:=owns_form o6
 have hsm:=SameNums_ok (a6.owns H4.out.1 (fun _ _ h => h)) o6 hl65
 have HSM:=Lib.hid hsm
 have H6:=(hIq (a6.owns H4.out.1 (fun _ _ h => h)) (aIq (a6.owns H4.out.2.1 (fun _ _ h => h)) (H4.out.2.2.trans a6 (fun _ => fEq))))
 clear o6 a6 hsm
 go_wp2_with fail
 refine HSM.out.mono ?_; rintro e w7 ⟨rfl,a7⟩
 have H7:=(hIq (a7.owns H6.out.1 (fun _ _ h => h)) (aIq (a7.owns H6.out.2.1 (fun _ _ h => h)) (H6.out.2.2.trans a7 (fun _ => fEq))))
 clear a7
 go_wp2_with fail
 have hG:∃ g,0 < n → b1 = some ⟨g,0,none⟩ ∧ w.heap.size ≤ g ∧ g < w1.heap.size ∧ ∃ cur,w7.heap[g]? = some (.cells cur 3 (0,0)) ∧ n ≤ cur.size:=by
  by_cases h0:0 < n
  · obtain ⟨g,cap,cur,e,hg,h1,h2,h3,h4⟩:=owns_block H7.out.1 h0
    injection e with e1 _ _
    subst e1
    have q:=(H7.out.1.lt _ rfl).1
    have q2:=(H1.out.1.lt _ rfl).2
    exact ⟨g,fun _ => ⟨rfl,q,q2,cur,hg,by omega⟩⟩
  exact ⟨0,fun h => absurd h h0⟩
 obtain ⟨g0,hG⟩:=hG
 have HG:=Lib.hid hG
 clear hG
 go_loopg [9] n (fun g s9 wr => ∃ k:Nat,k ≤ n ∧ g = n - k ∧ s9 = .int .i64 k ∧ Ch (fun j => 0 < n ∧ j = g0) w7 wr ∧ (0 < n → ∃ cur,wr.heap[g0]? = some (.cells cur 3 (0,0)) ∧ n ≤ cur.size))
 case atStart => exact ⟨0,Nat.zero_le _,rfl,rfl,Ch.refl _ _,fun h => (HG.out h).2.2.2⟩
 obtain ⟨k,hk,rfl,rfl,hch,hcur⟩:=hrel
 by_cases hkl:k < n
 · obtain ⟨rfl,_⟩:=HG.out (by omega)
   obtain ⟨cur,hcur,hsz⟩:=hcur (by omega)
   obtain ⟨y,hy⟩:∃ y,cur[k]? = some y:=⟨_,Array.getElem?_eq_getElem (by omega)⟩
   have c1:=row_cell hcur hy
   have f1:=row_free hcur k
   have l1:=row_lt hcur
   have hkz:(k:Int) < (n:Int):=by omega
   have hset:=row_set_same hcur k (.int .i64 (-7))
   have HS:=(hIq hset (aIq hch hsz))
   clear hset hch hcur hsz hy
   go_wp2
   go_roundg (n - (k + 1))
   case measure => omega
   exact ⟨k + 1,by omega,rfl,by go_num,HS.out.2.1.setCell (p:=⟨g0,k,none⟩) (.inl ⟨by omega,rfl⟩) _,fun _ => ⟨_,HS.out.1,by rw [Array.size_setIfInBounds]; exact HS.out.2.2⟩⟩
 obtain rfl:k = n:=by omega
 have hA8:Adds w wr:=H7.out.2.2.trans hch (fun j hj => .inr (hj.2 ▸ (HG.out hj.1).2.1))
 have ho8:=hch.owns H7.out.2.1 (fun j hj hq => by
  have h1:=(HG.out hq.1).2.2.1
  have h2:=(H7.out.2.1.lt _ hj).1
  have h3:=hq.2
  omega)
 have H8:=(hIq hA8 ho8)
 clear hA8 ho8 hch hcur hkl hk
 go_wp2_with fail
 refine (THd.out _ H8.out.1).mono ?_; rintro e w9 ⟨v9,rfl,o9,a9⟩
 obtain ⟨b9,c9,rfl⟩:=owns_form o9
 have hsm:=SameNums_ok (a9.owns H8.out.2 (fun _ _ h => h)) o9 hl65
 have HSM:=Lib.hid hsm
 have H9:=Lib.hid (H8.out.1.trans a9 (fun _ => fEq))
 clear o9 a9 hsm
 go_wp2_with fail
 refine HSM.out.mono ?_; rintro e w10 ⟨rfl,a10⟩
 have H10:=Lib.hid (H9.out.trans a10 (fun _ => fEq))
 clear a10
 go_wp2_with fail
 go_loopg [10] (ns + 3) (fun g s10 wr => ∃ k:Nat,k ≤ ns + 3 ∧ g = ns + 3 - k ∧ s10 = .int .i64 ((k:Int) - 1) ∧ Adds w wr)
 case atStart => exact ⟨0,Nat.zero_le _,rfl,rfl,H10.out⟩
 obtain ⟨k,hk,rfl,rfl,hA⟩:=hrel
 obtain ⟨ao,cap,hc⟩:=HRow.out _ hA
 have HA:=Lib.hid hA
 clear hA
 have hw1:IntKind.i64.wrap ((ns:Int) + 1) = (ns:Int) + 1:=IntWalk.i64_in _ (by omega)
 by_cases hkl:k < ns + 3
 · have hkz:(k:Int) - 1 ≤ (ns:Int) + 1:=by omega
   go_wp2_with fail
   refine (HLk.out _ HA.out _).mono ?_; rintro e w11 ⟨rfl,a11⟩
   have HA2:=Lib.hid (HA.out.trans a11 (fun _ => fEq))
   clear a11
   go_wp2
   go_roundg (ns + 3 - (k + 1))
   case measure => omega
   exact ⟨k + 1,by omega,rfl,by go_num,HA2.out⟩
 have hkz:¬ ((k:Int) - 1 ≤ (ns:Int) + 1):=by omega
 go_wp2
 go_ret
 exact ⟨rfl,HA.out⟩
end
end Go.Proofs.YtmeglndnkdgkoaaGreat.Store
namespace Go.Proofs.YtmeglndnkdgkoaaGreat.Store
open Go.RowKit Go.Proofs.YtmeglndnkdgkoaaGreat.ShaW Go.Proofs.YtmeglndnkdgkoaaGreat.Path
section
variable {w0 w w' : World} {b : Nat} {σ : SlabSt Nd} {F G : Nat → Prop}
def WayAt (b0:Nat) (K:Array Value) (ao:Option Addr) (cap:Nat) (l:List Int) (w:World):Prop :=
 w.heap[b0]? = some (.cells K 31 (0,0)) ∧ w.ownsRow 0 3 1 (.slice ao l.length cap) l.length (hl l)
def WayG (G:Nat → Prop) (b0:Nat) (ao:Option Addr) (n cap:Nat) (k:Nat):Prop:=G k ∨ k = b0 ∨ (Value.slice ao n cap).ownBlock = some k
end
section
variable {w0 w : World} {s : Nat} {σ σ' σ0 σ1 : SlabSt Nd} {F G : Nat → Prop} {root r now : Int} {t : Tr} {L L' : Ents} {key bs : List UInt8} {n : Nat} {R R' : List (Int × Ents)}
structure Step (σ σ':SlabSt Nd) (root r:Int):Prop where
 good:Good σ'
 agree:∀ k x,sk σ k = some x → sk σ' k = none ∨ sk σ' k = some x
 held:∀ k,k ≠ 0 → Store.held σ' k = Store.held σ k - (if k = root then 1 else 0) + (if k = r then 1 else 0)
def roots (R:List (Int × Ents)) (k:Int):Nat:=R.countP (fun p => p.1 == k)
structure Roots (σ:SlabSt Nd) (R:List (Int × Ents)):Prop where
 good:Good σ
 held:∀ k,k ≠ 0 → Store.held σ k = (roots R k:Nat)
 rep:∀ p ∈ R,Rep (sk σ) p.1 0 (tree 256 p.2)
 nodup:∀ p ∈ R,(keysOf p.2).Nodup
 len:∀ p ∈ R,∀ q ∈ p.2,q.1.length = 32
structure WroteR (σ σ':SlabSt Nd) (root r:Int) (n m:Nat):Prop where
 step:Step σ σ' root r
 live:Store.live σ' ≤ Store.live σ + n
 total:Store.total σ' ≤ Store.total σ + m
 room:σ'.room = σ.room
end
def putErr (σ:SlabSt Nd) (r:Int) (bs:List UInt8):Int:=if 1024 < bs.length then 4 else if atHand σ r ≠ 0 then atHand σ r else if fitsJ σ 1 = false then 9 else 0
def PutTo (σ:SlabSt Nd) (r:Int) (key bs:List UInt8) (x:Int) (σ':SlabSt Nd):Prop :=
 (putErr σ r bs ≠ 0 ∧ x = 0 ∧ σ' = σ) ∨ (putErr σ r bs = 0 ∧ ∃ l e1,On (sk σ) key r 0 l e1 ∧ ((sameS σ key bs e1 = true ∧ x = r ∧ σ' = σ) ∨ (sameS σ key bs e1 = false ∧ ∃ v,x = (putS σ r key bs v l e1).1 ∧ σ' = (putS σ r key bs v l e1).2)))
def costErr (σ:SlabSt Nd) (r:Int) (bs:List UInt8):Int:=if 1024 < bs.length then 4 else atHand σ r
def CostTo (σ:SlabSt Nd) (r:Int) (key bs:List UInt8) (x:Int):Prop :=
 (costErr σ r bs ≠ 0 ∧ x = 0) ∨ (costErr σ r bs = 0 ∧ ∃ l e1,On (sk σ) key r 0 l e1 ∧ x = if sameS σ key bs e1 = true then (0:Int) else ((putCost σ key l e1:Nat):Int))

end Go.Proofs.YtmeglndnkdgkoaaGreat.Store

/- Laws of the layers below. -/
import Derived.Test.YtmeglndnkdgkoaaGreatQe31
set_option maxHeartbeats 3200000
set_option maxRecDepth 100000
set_option linter.unusedVariables false
namespace Go.Proofs.YtmeglndnkdgkoaaGreat.Store
open Go.RowKit Go.Proofs.YtmeglndnkdgkoaaGreat.ShaW Go.Proofs.YtmeglndnkdgkoaaGreat.Path
section
variable {w0 w w' : World} {s b : Nat} {σ : SlabSt Nd} {F G : Nat → Prop}
theorem Cost_long (h:At w s F σ) (root:Int) (K:Array Value) (ao:Option Addr) (len cap:Nat) (hl:1024 < len) :
 Calls Tryz.prog 78 #[.pointer (some ⟨s,0,none⟩),.int .i64 root,.agg K,.slice ao len cap] w fun e w' => e = .returned (.tuple #[.int .i64 0,.int .i64 4]) ∧ Adds w w':=by
 have hr:=Room_ok (h.adds ((Ch.refl (fun _ => False) w).alloc (.cells K 31)))
 have hp:=room_pos h
 have HR:=Lib.hid hr
 clear hr h
 go_enter Tryz.func78,Tryz.ntmps78
 go_wp2_with fail
 refine HR.out.mono ?_; rintro e w1 ⟨rfl,rfl⟩
 go_wp2
 go_ret2
 exact ⟨rfl,(Ch.refl _ _).alloc _⟩
theorem Cost_hand (h:At w s F σ) (root:Int) (K:Array Value) (ao:Option Addr) (len cap:Nat) (hl:len ≤ 1024) (hh:atHand σ root ≠ 0) :
 Calls Tryz.prog 78 #[.pointer (some ⟨s,0,none⟩),.int .i64 root,.agg K,.slice ao len cap] w fun e w' => e = .returned (.tuple #[.int .i64 0,.int .i64 (atHand σ root)]) ∧ Adds w w':=by
 have a0:Adds w (w.alloc (.cells K 31)):=(Ch.refl (fun _ => False) w).alloc _
 have hr:=Room_ok (h.adds a0)
 have ha:=AtHand_ok (h.adds a0) root
 have hp:=room_pos h
 obtain ⟨er,her⟩:∃ x,x = atHand σ root:=⟨_,rfl⟩
 rw [← her] at ha hh ⊢
 have HR:=Lib.hid hr
 have HA:=Lib.hid ha
 have A0:=Lib.hid a0
 clear hr h ha her a0
 go_enter Tryz.func78,Tryz.ntmps78
 go_wp2_with fail
 refine HR.out.mono ?_; rintro e w1 ⟨rfl,rfl⟩
 go_wp2_with fail
 refine HA.out.mono ?_; rintro e w1 ⟨rfl,a1⟩
 go_wp2
 go_ret2
 exact ⟨rfl,A0.out.trans a1 (fun _ => fEq)⟩
theorem Cost9_long (h:ROw w0 w b σ G) (root:Int) (K:Array Value) (ao:Option Addr) (len cap:Nat) (hl:1024 < len) :
 Calls Tryz.prog 79 #[.pointer (some ⟨b,0,none⟩),.int .i64 root,.agg K,.slice ao len cap] w fun e w' => e = .returned (.tuple #[.int .i64 0,.int .i64 4]) ∧ Adds w w':=by
 have a0:Adds w (w.alloc (.cells K 31)):=(Ch.refl (fun _ => False) w).alloc _
 have HW:=Lib.hid (wrong9_long (h.adds a0) root ao len cap hl)
 have A0:=Lib.hid a0
 clear h a0 hl
 go_enter Tryz.func79,Tryz.ntmps79
 go_wp2_with fail
 refine HW.out.mono ?_; rintro e w1 ⟨rfl,a1⟩
 go_wp2
 go_ret2
 exact ⟨rfl,A0.out.trans a1 (fun _ => fEq)⟩
theorem Cost9_hand (h:ROw w0 w b σ G) (GG:Good σ) (root:Int) (K:Array Value) (ao:Option Addr) (len cap:Nat) (hl:len ≤ 1024) (hh:atHand σ root ≠ 0) :
 Calls Tryz.prog 79 #[.pointer (some ⟨b,0,none⟩),.int .i64 root,.agg K,.slice ao len cap] w fun e w' => e = .returned (.tuple #[.int .i64 0,.int .i64 (atHand σ root)]) ∧ Adds w w':=by
 have a0:Adds w (w.alloc (.cells K 31)):=(Ch.refl (fun _ => False) w).alloc _
 have hw:=wrong9_hand (h.adds a0) GG root ao len cap hl
 obtain ⟨er,her⟩:∃ x,x = atHand σ root:=⟨_,rfl⟩
 rw [← her] at hw hh ⊢
 have hn:(er != 0) = true:=by simpa using hh
 have HW:=Lib.hid hw
 have A0:=Lib.hid a0
 clear h a0 hl hw her
 go_enter Tryz.func79,Tryz.ntmps79
 go_wp2_with fail
 refine HW.out.mono ?_; rintro e w1 ⟨rfl,a1⟩
 go_wp2
 go_ret2
 exact ⟨rfl,A0.out.trans a1 (fun _ => fEq)⟩
theorem Cost9_ok (h:ROw w0 w b σ G) (GG:Good σ) (root:Int) (key:List UInt8) (hk:key.length = 32) {vv:Value} {bs:List UInt8} (hb:Bytes w vv bs) (hl:bs.length ≤ 1024) (hh:atHand σ root = 0)
 {l:List Int} {e1:Int} (ho:On (sk σ) key root 0 l e1) :
 Calls Tryz.prog 79 #[.pointer (some ⟨b,0,none⟩),.int .i64 root,.agg (brow key),vv] w fun e w' => e = .returned (.tuple #[.int .i64 (if sameS σ key bs e1 = true then 0 else (putCost σ key l e1:Nat)),.int .i64 0]) ∧ Adds w w':=by
 obtain ⟨ao,cap,hvv,_⟩:=hb.form
 obtain ⟨K,hK⟩:∃ K,K = brow key:=⟨_,rfl⟩
 have hKs:K.size = 32:=by rw [hK,brow_size,hk]
 have a0:Adds w (w.alloc (.cells K 31)):=(Ch.refl (fun _ => False) w).alloc _
 have hw:=wrong9_hand (h.adds a0) GG root ao bs.length cap hl
 have hwy:=fun w1 (a:Adds w w1) => Way_ok (h.adds a) GG root key hk ho
 have hth:=fun w1 (a:Adds w w1) => there_ok (h.adds a) GG e1 key hk (hb.keep a (fun _ _ h => h))
 have hkd:=fun w1 (a:Adds w w1) => (h.adds a).kind GG e1
 have hky:=fun w1 (a:Adds w w1) (hk1:(nd σ e1).kind = 1) => (h.adds a).keyLeaf GG hk1
 have hll:l.length ≤ 256:=by have:=ho.len GG.fit (by omega); omega
 have hoc:=fun (hot:otherS σ key e1 = true) => other_common GG hk ho hot
 have hkl0:(nd σ e1).kind = 1 → (nd σ e1).key.length = 32:=fun hk1 => by
  cases hx:σ.get? e1 with
  | none => rw [nd_none hx] at hk1; exact absurd (show (0:Nat) = 1 from hk1) (by decide)
  | some x => rw [nd_some hx]; exact (GG.fit.all _ _ (sk_some hx)).key
 rw [hh] at hw
 obtain ⟨sm,hsm⟩:∃ x,x = sameS σ key bs e1:=⟨_,rfl⟩
 rw [← hsm, ← hK] at hth
 rw [← hsm]
 rw [← hK] at hwy
 rw [← hK]
 subst hvv
 have HW:=Lib.hid hw
 have HY:=Lib.hid hwy
 have HT:=Lib.hid hth
 have HK:=Lib.hid hKs
 have HKK:=Lib.hid hK
 have A0:=Lib.hid a0
 clear h a0 hl hw hh hwy hth hK hKs ho hb hsm GG
 go_enter Tryz.func79,Tryz.ntmps79
 go_wp2_with fail
 refine HW.out.mono ?_; rintro e w1 ⟨rfl,a1⟩
 have k1:=a1.row (heap_alloc_new w (.cells K 31)) id
 have A2:=(hIq (A0.out.trans a1 (fun _ => fEq)) k1)
 clear a1 k1
 go_wp2_with (first
  | fail
  | ((with_reducible show zOq (.load 31 _)); refine wpList_load_part rfl 31 _ rfl w.heap.size 0 rfl A2.out.2 Tryz.underlying31 rfl sizeP (by rw [HK.out]; omega) K (by simp [← HK.out]) ?_))
 refine (HY.out _ A2.out.1).mono ?_; rintro e w3 ⟨v,rfl,o3,a3⟩
 obtain ⟨ao3,cap3,rfl⟩:=owns_form o3
 have A3:=(hIq (A2.out.1.trans a3 (fun _ => fEq)) (a3.row A2.out.2 id))
 clear a3 o3
 go_wp2_with (first
  | fail
  | ((with_reducible show zOq (.load 31 _)); refine wpList_load_part rfl 31 _ rfl w.heap.size 0 rfl A3.out.2 Tryz.underlying31 rfl sizeP (by rw [HK.out]; omega) K (by simp [← HK.out]) ?_))
 refine (HT.out _ A3.out.1).mono ?_; rintro e w4 ⟨rfl,a4⟩
 have A4:=(hIq (A3.out.1.trans a4 (fun _ => fEq)) (a4.row A3.out.2 id))
 clear a4
 cases sm with
 | true =>
  go_wp2
  go_ret2
  exact ⟨rfl,A4.out.1⟩
 | false =>
  have hw1:IntKind.i64.wrap (1 + (l.length:Int)) = 1 + (l.length:Int):=IntWalk.i64_in _ (by omega)
  by_cases hk1:(nd σ e1).kind = 1
  · have hkl:=hkl0 hk1
    have hneq:=neq_keys 31 Tryz.underlying31 (nd σ e1).key key hkl hk
    have hcm:=fun w1 => RCommon_ok key (nd σ e1).key hk hkl w1
    have hky:=fun w1 a => hky w1 a hk1
    rw [hk1] at hkd
    obtain ⟨K2,hK2⟩:∃ K2,K2 = brow (nd σ e1).key:=⟨_,rfl⟩
    rw [← hK2, ← HKK.out] at hneq hcm
    rw [← hK2] at hky
    have HKD:=Lib.hid hkd
    have HKY:=Lib.hid hky
    have hot:otherS σ key e1 = !decide ((nd σ e1).key = key):=by unfold otherS; rw [hk1]; simp
    have e1':(((1:Nat):Int) == 1) = true:=rfl
    obtain ⟨ek,hek⟩:∃ x,x = decide ((nd σ e1).key = key):=⟨_,rfl⟩
    rw [← hek] at hneq hot
    have HQ:=Lib.hid hneq
    cases ek with
    | true =>
     have HCO:=Lib.hid (putCost_no (l:=l) hot)
     clear hot hek hneq hcm hky hkd hkl hk1 hK2 hoc hkl0
     go_wp2
     refine wp_region_plan (fun wz => wz.heap[w.heap.size]? = some (.cells K 31 (0,0)) ∧ Adds w wz) 11 [(0,false),(1,false),(2,true),(3,false),(4,false),(5,false),(6,false),(8,false),(7,true),(9,false),(10,false)] (by kernel_rfl) (by kernel_rfl) ?_ ?_
     · exact ⟨row_drew A4.out.2,A4.out.1.drew⟩
     iterate 2
      iterate 1 refine plan_look rfl rfl (fun w0 hS => (by go_simp; try rfl)) ?_
      simp only [Act.put,nAq,nBq,nCq]
     refine plan_do rfl ?_
     go_wp2_with fail
     refine (HKD.out _ A4.out.1.drew).mono ?_; rintro e w6 ⟨rfl,a6⟩
     have H6:=(hIq (a6.row (row_drew A4.out.2) id) (A4.out.1.drew.trans a6 (fun _ => fEq)))
     clear a6
     dsimp only
     go_step
     refine wpList_nil ?_
     change _ ∧ _
     refine ⟨H6.out,?_⟩
     iterate 4
      refine plan_look rfl rfl (fun w0 hS => (by clear hS; go_simp; try rfl)) ?_
      simp only [Act.put,nAq,nBq,nCq]
     refine plan_gload_part (cur:=K) (t:=31) (fr:=(0,0)) rfl rfl 31 (.tmp 6) rfl w.heap.size 0 32 rfl (fun w0 hS => hS.1) Tryz.underlying31 rfl sizeP (by rw [HK.out]; omega) K (by simp [← HK.out]) ?_
     simp only [Act.put,nAq,nBq,nCq]
     refine plan_do rfl ?_
     go_wp2_with fail
     refine (HKY.out _ H6.out.2).mono ?_; rintro e w7 ⟨rfl,a7⟩
     have H7:=(hIq (a7.row H6.out.1 id) (H6.out.2.trans a7 (fun _ => fEq)))
     clear a7 H6
     dsimp only
     go_step
     refine wpList_nil ?_
     change _ ∧ _
     refine ⟨H7.out,?_⟩
     refine plan_look (v:=.bool false) rfl rfl (fun w0 hS => (by have hq:=HQ.out w0; rw [run_neq_struct] at hq; clear hS; go_simp)) ?_
     simp only [Act.put,nAq,nBq,nCq]
     refine plan_look (v:=.bool false) rfl rfl (fun w0 hS => (by clear hS; go_simp; try rfl)) ?_
     simp only [Act.put,nAq,nBq,nCq]
     refine plan_end ?_; simp only [List.drop_succ_cons,List.drop_zero]
     go_wp2
     refine NoPanic.normal ?_
     go_wp2
     go_ret2
     refine ⟨?_,H7.out.2⟩
     rw [HCO.out]
     push_cast
     rw [Int.add_comm]
     rfl
    | false =>
     obtain ⟨hcl,hc256,_⟩:=hoc hot
     have hco:=putCost_yes hot hcl
     obtain ⟨c,hc⟩:∃ x,x = common key (nd σ e1).key:=⟨_,rfl⟩
     rw [← hc] at hcl hc256 hcm hco
     have HC:=Lib.hid hcm
     have HCO:=Lib.hid hco
     obtain ⟨n,hn⟩:∃ n,n = l.length:=⟨_,rfl⟩
     rw [← hn] at hw1 hll hcl ⊢
     have hw2:IntKind.i64.wrap (1 + (n:Int) + (c:Int)) = 1 + (n:Int) + (c:Int):=IntWalk.i64_in _ (by omega)
     have hw3:IntKind.i64.wrap (1 + (n:Int) + (c:Int) - (n:Int)) = (c:Int) + 1:=by rw [show 1 + (n:Int) + (c:Int) - (n:Int) = (c:Int) + 1 by omega]; exact IntWalk.i64_in _ (by omega)
     have hw4:IntKind.i64.wrap ((c:Int) + 1 + 1) = (c:Int) + 2:=by rw [show (c:Int) + 1 + 1 = (c:Int) + 2 by omega]; exact IntWalk.i64_in _ (by omega)
     clear hot hek hneq hcm hky hkd hkl hk1 hK2 hoc hkl0 hco hc hcl hn
     go_wp2
     refine wp_region_plan (fun wz => wz.heap[w.heap.size]? = some (.cells K 31 (0,0)) ∧ Adds w wz) 11 [(0,false),(1,false),(2,true),(3,false),(4,false),(5,false),(6,false),(8,false),(7,true),(9,false),(10,false)] (by kernel_rfl) (by kernel_rfl) ?_ ?_
     · exact ⟨row_drew A4.out.2,A4.out.1.drew⟩
     iterate 2
      iterate 1 refine plan_look rfl rfl (fun w0 hS => (by go_simp; try rfl)) ?_
      simp only [Act.put,nAq,nBq,nCq]
     refine plan_do rfl ?_
     go_wp2_with fail
     refine (HKD.out _ A4.out.1.drew).mono ?_; rintro e w6 ⟨rfl,a6⟩
     have H6:=(hIq (a6.row (row_drew A4.out.2) id) (A4.out.1.drew.trans a6 (fun _ => fEq)))
     clear a6
     dsimp only
     go_step
     refine wpList_nil ?_
     change _ ∧ _
     refine ⟨H6.out,?_⟩
     iterate 4
      refine plan_look rfl rfl (fun w0 hS => (by clear hS; go_simp; try rfl)) ?_
      simp only [Act.put,nAq,nBq,nCq]
     refine plan_gload_part (cur:=K) (t:=31) (fr:=(0,0)) rfl rfl 31 (.tmp 6) rfl w.heap.size 0 32 rfl (fun w0 hS => hS.1) Tryz.underlying31 rfl sizeP (by rw [HK.out]; omega) K (by simp [← HK.out]) ?_
     simp only [Act.put,nAq,nBq,nCq]
     refine plan_do rfl ?_
     go_wp2_with fail
     refine (HKY.out _ H6.out.2).mono ?_; rintro e w7 ⟨rfl,a7⟩
     have H7:=(hIq (a7.row H6.out.1 id) (H6.out.2.trans a7 (fun _ => fEq)))
     clear a7 H6
     dsimp only
     go_step
     refine wpList_nil ?_
     change _ ∧ _
     refine ⟨H7.out,?_⟩
     refine plan_look (v:=.bool true) rfl rfl (fun w0 hS => (by have hq:=HQ.out w0; rw [run_neq_struct] at hq; clear hS; go_simp)) ?_
     simp only [Act.put,nAq,nBq,nCq]
     refine plan_look (v:=.bool true) rfl rfl (fun w0 hS => (by clear hS; go_simp; try rfl)) ?_
     simp only [Act.put,nAq,nBq,nCq]
     refine plan_end ?_; simp only [List.drop_succ_cons,List.drop_zero]
     go_wp2
     refine NoPanic.normal ?_
     go_wp2
     refine wp_region_plan (fun wz => wz.heap[w.heap.size]? = some (.cells K 31 (0,0)) ∧ Adds w wz) 11 [(0,false),(1,false),(2,false),(3,false),(7,false),(8,false),(4,true),(5,true),(6,false),(9,false),(10,false)] (by kernel_rfl) (by kernel_rfl) ?_ ?_
     · exact ⟨row_drew H7.out.1,H7.out.2.drew⟩
     refine plan_look rfl rfl (fun w0 hS => (by clear hS; go_simp; try rfl)) ?_
     simp only [Act.put,nAq,nBq,nCq]
     refine plan_load_part (cur:=K) (t:=31) (fr:=(0,0)) rfl rfl 31 (.tmp 6) rfl w.heap.size 0 32 rfl (fun w0 hS => hS.1) Tryz.underlying31 rfl sizeP (by rw [HK.out]; omega) K (by simp [← HK.out]) ?_
     simp only [Act.put,nAq,nBq,nCq]
     iterate 4
      refine plan_look rfl rfl (fun w0 hS => (by clear hS; go_simp; try rfl)) ?_
      simp only [Act.put,nAq,nBq,nCq]
     refine plan_do rfl ?_
     go_wp2_with fail
     refine (HKY.out _ H7.out.2.drew).mono ?_; rintro e w8 ⟨rfl,a8⟩
     have H8:=(hIq (a8.row (row_drew H7.out.1) id) (H7.out.2.drew.trans a8 (fun _ => fEq)))
     clear a8
     dsimp only
     go_step
     refine wpList_nil ?_
     change _ ∧ _
     refine ⟨H8.out,?_⟩
     refine plan_do rfl ?_
     go_wp2_with fail
     refine (HC.out _).mono ?_; rintro e w9 ⟨rfl,a9⟩
     have H9:=(hIq (a9.row H8.out.1 id) (H8.out.2.trans a9 (fun _ => fEq)))
     clear a9
     dsimp only
     go_step
     refine wpList_nil ?_
     change _ ∧ _
     refine ⟨H9.out,?_⟩
     refine plan_look (v:=.int .i64 (1 + (n:Int) + (c:Int))) rfl rfl (fun w0 hS => (by clear hS; go_simp; try simp [hw2])) ?_
     simp only [Act.put,nAq,nBq,nCq]
     refine plan_look (v:=.int .i64 ((c:Int) + 1)) rfl rfl (fun w0 hS => (by clear hS; go_simp; try simp [hw3])) ?_
     simp only [Act.put,nAq,nBq,nCq]
     refine plan_look (v:=.int .i64 ((c:Int) + 2)) rfl rfl (fun w0 hS => (by clear hS; go_simp; try simp [hw4])) ?_
     simp only [Act.put,nAq,nBq,nCq]
     refine plan_end ?_; simp only [List.drop_succ_cons,List.drop_zero]
     go_wp2
     refine NoPanic.normal ?_
     go_wp2
     go_ret2
     refine ⟨?_,H9.out.2⟩
     rw [HCO.out]
     rfl
  have hot:otherS σ key e1 = false:=by
   unfold otherS
   rw [decide_eq_false hk1,Bool.false_and]
  have HCO:=Lib.hid (putCost_no (l:=l) hot)
  obtain ⟨kd,hkd'⟩:∃ x,x = (nd σ e1).kind:=⟨_,rfl⟩
  rw [← hkd'] at hkd hk1
  have HKD:=Lib.hid hkd
  have e1':((kd:Int) == 1) = false:=by simpa using (show ¬ (kd:Int) = 1 by omega)
  have e2':decide ((kd:Int) = 1) = false:=decide_eq_false (by omega)
  clear hot hkd hk1 hkd' hoc hkl0 hky
  go_wp2
  refine wp_region_plan (fun wz => wz.heap[w.heap.size]? = some (.cells K 31 (0,0)) ∧ Adds w wz) 11 [(0,false),(1,false),(2,true),(3,false),(4,false),(5,false),(6,false),(7,false),(8,false),(9,false),(10,false)] (by kernel_rfl) (by kernel_rfl) ?_ ?_
  · exact ⟨row_drew A4.out.2,A4.out.1.drew⟩
  iterate 2
   iterate 1 refine plan_look rfl rfl (fun w0 hS => (by go_simp; try rfl)) ?_
   simp only [Act.put,nAq,nBq,nCq]
  refine plan_do rfl ?_
  go_wp2_with fail
  refine (HKD.out _ A4.out.1.drew).mono ?_; rintro e w6 ⟨rfl,a6⟩
  have H6:=(hIq (a6.row (row_drew A4.out.2) id) (A4.out.1.drew.trans a6 (fun _ => fEq)))
  clear a6
  dsimp only
  go_step
  refine wpList_nil ?_
  change _ ∧ _
  refine ⟨H6.out,?_⟩
  iterate 2
   refine plan_look (v:=.bool false) rfl rfl (fun w0 hS => (by clear hS; go_simp; try rfl)) ?_
   simp only [Act.put,nAq,nBq,nCq]
  iterate 5
   refine plan_skip rfl (by rfl) ?_
   simp only [Act.put,nAq,nBq,nCq]
  refine plan_look (v:=.bool false) rfl rfl (fun w0 hS => (by clear hS; go_simp; try rfl)) ?_
  simp only [Act.put,nAq,nBq,nCq]
  refine plan_end ?_; simp only [List.drop_succ_cons,List.drop_zero]
  go_wp2
  refine NoPanic.normal ?_
  go_wp2
  go_ret2
  refine ⟨?_,H6.out.2⟩
  rw [HCO.out]
  push_cast
  rw [Int.add_comm]
  rfl
end
def putErr (σ:SlabSt Nd) (r:Int) (bs:List UInt8):Int:=if 1024 < bs.length then 4 else if atHand σ r ≠ 0 then atHand σ r else if fitsJ σ 1 = false then 9 else 0
def PutTo (σ:SlabSt Nd) (r:Int) (key bs:List UInt8) (x:Int) (σ':SlabSt Nd):Prop :=
 (putErr σ r bs ≠ 0 ∧ x = 0 ∧ σ' = σ) ∨ (putErr σ r bs = 0 ∧ ∃ l e1,On (sk σ) key r 0 l e1 ∧ ((sameS σ key bs e1 = true ∧ x = r ∧ σ' = σ) ∨ (sameS σ key bs e1 = false ∧ ∃ v,x = (putS σ r key bs v l e1).1 ∧ σ' = (putS σ r key bs v l e1).2)))
def costErr (σ:SlabSt Nd) (r:Int) (bs:List UInt8):Int:=if 1024 < bs.length then 4 else atHand σ r
def CostTo (σ:SlabSt Nd) (r:Int) (key bs:List UInt8) (x:Int):Prop :=
 (costErr σ r bs ≠ 0 ∧ x = 0) ∨ (costErr σ r bs = 0 ∧ ∃ l e1,On (sk σ) key r 0 l e1 ∧ x = if sameS σ key bs e1 = true then (0:Int) else ((putCost σ key l e1:Nat):Int))
section
variable {w0 w w' : World} {s b : Nat} {σ σ' : SlabSt Nd} {G : Nat → Prop} {r x : Int} {key bs : List UInt8}
theorem putErr_zero (h:putErr σ r bs = 0):bs.length ≤ 1024 ∧ atHand σ r = 0 ∧ fitsJ σ 1 = true:=by
 unfold putErr at h
 by_cases h1:1024 < bs.length
 · rw [if_pos h1] at h; exact absurd h (by decide)
 rw [if_neg h1] at h
 by_cases h2:atHand σ r = 0
 · rw [if_neg (by simpa using h2)] at h
   refine ⟨by omega,h2,?_⟩
   cases h3:fitsJ σ 1 with
   | true => rfl
   | false => rw [if_pos h3] at h; exact absurd h (by decide)
 rw [if_pos h2] at h; exact absurd h h2
theorem costErr_zero (h:costErr σ r bs = 0):bs.length ≤ 1024 ∧ atHand σ r = 0:=by
 unfold costErr at h
 by_cases h1:1024 < bs.length
 · rw [if_pos h1] at h; exact absurd h (by decide)
 rw [if_neg h1] at h
 exact ⟨by omega,h⟩
theorem Put_any (h:Ow w0 w s σ G) (GG:Good σ) (r:Int) (hk:key.length = 32) {vv:Value} (hb:Bytes w vv bs) (hv:bs ≠ [] → ∀ k,vv.ownBlock = some k → k < w.heap.size) :
 Calls Tryz.prog 80 #[.pointer (some ⟨s,0,none⟩),.int .i64 r,.agg (brow key),vv] w fun e w' => ∃ x σ',e = .returned (.tuple #[.int .i64 x,.int .i64 (putErr σ r bs)]) ∧ PutTo σ r key bs x σ' ∧ Ow w0 w' s σ' G ∧ But G w w':=by
 obtain ⟨F,hAt⟩:=h.at
 by_cases he:putErr σ r bs = 0
 · obtain ⟨h1,h2,h3⟩:=putErr_zero he
   have hre:=rootErr_hand h2
   obtain ⟨t,l,e1,_,ho,_⟩:=root_on GG key hre
   cases hs:sameS σ key bs e1 with
   | true =>
    refine (Put_same hAt GG r key hk hb h1 h2 hre h3 ho hs).mono fun e w' ⟨he',ha⟩ => ⟨r,σ,?_,.inr ⟨he,l,e1,ho,.inl ⟨hs,rfl,rfl⟩⟩,h.adds ha,Adds.but ha⟩
    rw [he]; exact he'
   | false =>
    refine (Put_ok h GG r key hk hb hv h1 h2 hre h3 ho hs).mono fun e w' ⟨v,he',ho',hb'⟩ => ⟨_,_,?_,.inr ⟨he,l,e1,ho,.inr ⟨hs,v,rfl,rfl⟩⟩,ho',hb'⟩
    rw [he]; exact he'
 have key1:∀ {e:Ending} {w':World},e = .returned (.tuple #[.int .i64 0,.int .i64 (putErr σ r bs)]) ∧ Adds w w' → ∃ x σ',e = .returned (.tuple #[.int .i64 x,.int .i64 (putErr σ r bs)]) ∧ PutTo σ r key bs x σ' ∧ Ow w0 w' s σ' G ∧ But G w w':=fun ⟨he',ha⟩ =>
  ⟨0,σ,he',.inl ⟨he,rfl,rfl⟩,h.adds ha,Adds.but ha⟩
 by_cases h1:1024 < bs.length
 · have e0:putErr σ r bs = 4:=if_pos h1
   obtain ⟨ao,cap,rfl,_⟩:=hb.form
   rw [e0] at key1 ⊢
   exact (Put_long hAt r (brow key) ao bs.length cap h1).mono fun e w' h => key1 h
 by_cases h2:atHand σ r = 0
 · have h3:fitsJ σ 1 = false:=by
    cases h3:fitsJ σ 1 with
    | false => rfl
    | true => exact absurd (by unfold putErr; rw [if_neg h1,if_neg (by simpa using h2),if_neg (by rw [h3]; simp)]) he
   have e0:putErr σ r bs = 9:=by unfold putErr; rw [if_neg h1,if_neg (by simpa using h2),if_pos h3]
   rw [e0] at key1 ⊢
   exact (Put_full hAt r key hb (by omega) h2 h3).mono fun e w' h => key1 h
 have e0:putErr σ r bs = atHand σ r:=by unfold putErr; rw [if_neg h1,if_pos h2]
 rw [e0] at key1 ⊢
 exact (Put_hand hAt r key hb (by omega) h2).mono fun e w' h => key1 h
theorem Put9_any (h:ROw w0 w b σ G) (GG:Good σ) (r:Int) (hk:key.length = 32) {vv:Value} (hb:Bytes w vv bs) (hP:PutTo σ r key bs x σ') :
 Calls Tryz.prog 81 #[.pointer (some ⟨b,0,none⟩),.int .i64 r,.agg (brow key),vv] w fun e w' => e = .returned (.tuple #[.int .i64 x,.int .i64 (putErr σ r bs)]) ∧ ROw w0 w' b σ' G ∧ But G w w':=by
 rcases hP with ⟨he,rfl,rfl⟩ | ⟨he,l,e1,ho,h4⟩
 · obtain ⟨ao,cap,rfl,_⟩:=hb.form
   have key1:∀ {e:Ending} {w':World},e = .returned (.tuple #[.int .i64 0,.int .i64 (putErr σ' r bs)]) ∧ Adds w w' → e = .returned (.tuple #[.int .i64 0,.int .i64 (putErr σ' r bs)]) ∧ ROw w0 w' b σ' G ∧ But G w w':=fun ⟨he',ha⟩ => ⟨he',h.adds ha,Adds.but ha⟩
   by_cases h1:1024 < bs.length
   · have e0:putErr σ' r bs = 4:=if_pos h1
     rw [e0] at key1 ⊢
     exact (Put9_long h r (brow key) ao bs.length cap h1).mono fun e w' h => key1 h
   by_cases h2:atHand σ' r = 0
   · have h3:fitsJ σ' 1 = false:=by
      cases h3:fitsJ σ' 1 with
      | false => rfl
      | true => exact absurd (by unfold putErr; rw [if_neg h1,if_neg (by simpa using h2),if_neg (by rw [h3]; simp)]) he
     have e0:putErr σ' r bs = 9:=by unfold putErr; rw [if_neg h1,if_neg (by simpa using h2),if_pos h3]
     rw [e0] at key1 ⊢
     exact (Put9_full h GG r (brow key) ao bs.length cap (by omega) h2 h3).mono fun e w' h => key1 h
   have e0:putErr σ' r bs = atHand σ' r:=by unfold putErr; rw [if_neg h1,if_pos h2]
   rw [e0] at key1 ⊢
   exact (Put9_hand h GG r (brow key) ao bs.length cap (by omega) h2).mono fun e w' h => key1 h
 obtain ⟨h1,h2,h3⟩:=putErr_zero he
 rw [he]
 rcases h4 with ⟨hs,rfl,rfl⟩ | ⟨hs,v,rfl,rfl⟩
 · exact (Put9_same h GG x key hk hb h1 h2 h3 ho hs).mono fun e w' ⟨he',ha⟩ => ⟨he',h.adds ha,Adds.but ha⟩
 exact Put9_ok h GG r key hk hb h1 h2 h3 ho hs v
theorem Cost_any (h:Ow w0 w s σ G) (GG:Good σ) (r:Int) (hk:key.length = 32) {vv:Value} (hb:Bytes w vv bs) :
 Calls Tryz.prog 78 #[.pointer (some ⟨s,0,none⟩),.int .i64 r,.agg (brow key),vv] w fun e w' => ∃ x,e = .returned (.tuple #[.int .i64 x,.int .i64 (costErr σ r bs)]) ∧ CostTo σ r key bs x ∧ Adds w w':=by
 obtain ⟨F,hAt⟩:=h.at
 by_cases he:costErr σ r bs = 0
 · obtain ⟨h1,h2⟩:=costErr_zero he
   have hre:=rootErr_hand h2
   obtain ⟨t,l,e1,_,ho,_⟩:=root_on GG key hre
   refine (Cost_ok hAt GG r key hk hb h1 h2 hre ho).mono fun e w' ⟨he',ha⟩ => ⟨_,?_,.inr ⟨he,l,e1,ho,rfl⟩,ha⟩
   rw [he]; exact he'
 obtain ⟨ao,cap,rfl,_⟩:=hb.form
 by_cases h1:1024 < bs.length
 · have e0:costErr σ r bs = 4:=if_pos h1
   refine (Cost_long hAt r (brow key) ao bs.length cap h1).mono fun e w' ⟨he',ha⟩ => ⟨0,?_,.inl ⟨he,rfl⟩,ha⟩
   rw [e0]; exact he'
 have e0:costErr σ r bs = atHand σ r:=if_neg h1
 refine (Cost_hand hAt r (brow key) ao bs.length cap (by omega) (by rw [← e0]; exact he)).mono fun e w' ⟨he',ha⟩ => ⟨0,?_,.inl ⟨he,rfl⟩,ha⟩
 rw [e0]; exact he'
theorem Cost9_any (h:ROw w0 w b σ G) (GG:Good σ) (r:Int) (hk:key.length = 32) {vv:Value} (hb:Bytes w vv bs) (hC:CostTo σ r key bs x) :
 Calls Tryz.prog 79 #[.pointer (some ⟨b,0,none⟩),.int .i64 r,.agg (brow key),vv] w fun e w' => e = .returned (.tuple #[.int .i64 x,.int .i64 (costErr σ r bs)]) ∧ Adds w w':=by
 rcases hC with ⟨he,rfl⟩ | ⟨he,l,e1,ho,rfl⟩
 · obtain ⟨ao,cap,rfl,_⟩:=hb.form
   by_cases h1:1024 < bs.length
   · have e0:costErr σ r bs = 4:=if_pos h1
     rw [e0]
     exact Cost9_long h r (brow key) ao bs.length cap h1
   have e0:costErr σ r bs = atHand σ r:=if_neg h1
   rw [e0]
   exact Cost9_hand h GG r (brow key) ao bs.length cap (by omega) (by rw [← e0]; exact he)
 obtain ⟨h1,h2⟩:=costErr_zero he
 rw [he]
 exact Cost9_ok h GG r key hk hb h1 h2 ho
theorem PutTo.roots {L:Ents} {R:List (Int × Ents)} (h:PutTo σ r key bs x σ') (D:Roots σ ((r,L) :: R)) (hk:key.length = 32) (htot:total σ + 600 < 1073741824) (h0:putErr σ r bs = 0) :
 WroteR σ σ' r x 258 600 ∧ Roots σ' ((x,upd L key bs) :: R) ∧ x ≠ 0:=by
 have D0:Db σ r L:=D.db (List.mem_cons_self ..)
 have hz:=D0.good.fit.zero
 obtain ⟨h1,h2,h3⟩:=putErr_zero h0
 have hin:=ins_tree (v:=bs) 256 (Nat.le_refl _) (Ents.Ok.any D0.nodup D0.len key) hk
 rw [Nat.sub_self] at hin
 obtain ⟨hd1,hd2⟩:=upd_fine (bs:=bs) D0.nodup D0.len hk
 have hroom:live σ + 258 ≤ σ.room:=by
  rw [fitsJ_one,D0.good.used] at h3
  exact of_decide_eq_true h3
 rcases h with ⟨he,_⟩ | ⟨_,l,e1,ho,⟨hs,rfl,rfl⟩ | ⟨hs,v,rfl,rfl⟩⟩
 · exact absurd h0 he
 · obtain ⟨y,hy,g1,g2,g3⟩:=sameS_end hs
   have hr0:x ≠ 0:=fun e => by
    subst e
    obtain ⟨_,e⟩:=ho.zero hz
    rw [e,hz] at hy
    cases hy
   have hins:=ho.ins_same hz D0.rep hy g1 g2
   rw [g3] at hins
   have hst:=Step.refl D0.good x
   exact ⟨⟨hst,Nat.le_add_right _ _,Nat.le_add_right _ _,rfl⟩,D.step hst (by rw [← hin,hins]; exact D0.rep) hd1 hd2,hr0⟩
 have hc:=putCost_le D0.good hk ho
 have hM:=PutMid.made D0.good hk bs v h1 D0.rep ho (by omega) htot
 have hP:=put_spec D0.good hk bs v h1 D0.rep D0.held ho (by omega) htot
 have hst:Step σ (putS σ r key bs v l e1).2 r (putS σ r key bs v l e1).1:=hM.step D0.good D0.held
 exact ⟨⟨hst,by have:=hP.live; omega,by have:=hP.total; omega,hP.room⟩,D.step hst (by rw [← hin]; exact hP.rep) hd1 hd2,hP.ne⟩
end
def ScAt (w0 w:World) (c s b:Nat) (σ τ:SlabSt Nd) (root:Int) (aside:List Int) (G:Nat → Prop):Prop :=
 ∃ ρ F1 F2 vA,At w s F1 σ ∧ RAt w b F2 ρ ∧ Lk τ ρ ∧ w.heap[c]? = some (.cells #[.pointer (some ⟨s,0,none⟩),.pointer (some ⟨b,0,none⟩),.int .i64 root,vA] 45 (0,0)) ∧
  w.ownsRow 0 3 1 vA aside.length (hl aside) ∧ (∀ k,F1 k → w0.heap.size ≤ k) ∧ (∀ k,F2 k → w0.heap.size ≤ k ∧ ¬ F1 k) ∧ (w0.heap.size ≤ c ∧ ¬ F1 c ∧ ¬ F2 c) ∧
  (∀ k,vA.ownBlock = some k → w0.heap.size ≤ k ∧ k ≠ c ∧ ¬ F1 k ∧ ¬ F2 k) ∧ Adds w0 w ∧ ∀ k,G k → ¬ F1 k ∧ ¬ F2 k ∧ k ≠ c ∧ vA.ownBlock ≠ some k ∧ k < w.heap.size
section
variable {w0 w w' : World} {c s b : Nat} {σ σ' τ τ' : SlabSt Nd} {root : Int} {aside : List Int} {G : Nat → Prop}
theorem ScAt.world (h:ScAt w0 w c s b σ τ root aside G):Adds w0 w:=by obtain ⟨_,_,_,_,_,_,_,_,_,_,_,_,_,h,_⟩:=h; exact h
theorem ScAt.row (h:ScAt w0 w c s b σ τ root aside G):∃ ao cap,w.heap[c]? = some (.cells #[.pointer (some ⟨s,0,none⟩),.pointer (some ⟨b,0,none⟩),.int .i64 root,.slice ao aside.length cap] 45 (0,0)) ∧ w.ownsRow 0 3 1 (.slice ao aside.length cap) aside.length (hl aside):=by
 obtain ⟨_,_,_,vA,_,_,_,h4,h5,_⟩:=h
 obtain ⟨ao,cap,rfl⟩:=owns_form h5
 exact ⟨ao,cap,h4,h5⟩
theorem ScAt.adds (h:ScAt w0 w c s b σ τ root aside G) (a:Adds w w'):ScAt w0 w' c s b σ τ root aside G:=by
 obtain ⟨ρ,F1,F2,vA,h1,h2,h3,h4,h5,h6,h7,h8,h9,h10,h11⟩:=h
 exact ⟨ρ,F1,F2,vA,h1.adds a,h2.adds a,h3,a.row h4 id,a.owns h5 (fun _ _ h => h),h6,h7,h8,h9,h10.trans a (fun _ => fEq),fun k hk => by
  obtain ⟨q1,q2,q3,q4,q5⟩:=h11 k hk
  exact ⟨q1,q2,q3,q4,Nat.lt_of_lt_of_le q5 a.size⟩⟩
theorem ScAt.less {G':Nat → Prop} (h:ScAt w0 w c s b σ τ root aside G) (hG:∀ k,G' k → G k):ScAt w0 w c s b σ τ root aside G':=by
 obtain ⟨ρ,F1,F2,vA,h1,h2,h3,h4,h5,h6,h7,h8,h9,h10,h11⟩:=h
 exact ⟨ρ,F1,F2,vA,h1,h2,h3,h4,h5,h6,h7,h8,h9,h10,fun k hk => h11 k (hG k hk)⟩
theorem At.lt {F:Nat → Prop} (h:At w s F σ):∀ k,F k → k < w.heap.size:=by obtain ⟨_,_,_,_,_,_,_,q⟩:=h; exact q
theorem ScAt.more (h:ScAt w0 w c s b σ τ root aside G) (a:Adds w w') {G':Nat → Prop} (hG:∀ k,G' k → G k ∨ (w.heap.size ≤ k ∧ k < w'.heap.size)):ScAt w0 w' c s b σ τ root aside G':=by
 obtain ⟨ρ,F1,F2,vA,h1,h2,h3,h4,h5,h6,h7,h8,h9,h10,h11⟩:=h
 have l1:=At.lt h1
 have l2:=RAt.lt h2
 have lc:=row_lt h4
 refine ⟨ρ,F1,F2,vA,h1.adds a,h2.adds a,h3,a.row h4 id,a.owns h5 (fun _ _ h => h),h6,h7,h8,h9,h10.trans a (fun _ => fEq),fun k hk => ?_⟩
 rcases hG k hk with hk | ⟨hk,hk'⟩
 · obtain ⟨q1,q2,q3,q4,q5⟩:=h11 k hk
   exact ⟨q1,q2,q3,q4,Nat.lt_of_lt_of_le q5 a.size⟩
 exact ⟨fun h => by have:=l1 k h; omega,fun h => by have:=l2 k h; omega,by omega,fun h => by have:=(h5.lt k h).2; omega,hk'⟩
theorem ScAt.impl (h:ScAt w0 w c s b σ τ root aside G) {f:Nat} {args:Array Value} {P:Ending → SlabSt Nd → Prop}
 (hc:∀ G',Ow w0 w s σ G' → Calls Tryz.prog f args w fun e w' => ∃ σ',P e σ' ∧ Ow w0 w' s σ' G' ∧ But G' w w') :
 Calls Tryz.prog f args w fun e w' => ∃ σ',P e σ' ∧ ScAt w0 w' c s b σ' τ root aside G ∧ But G w w':=by
 obtain ⟨ρ,F1,F2,vA,h1,h2,h3,h4,h5,h6,h7,h8,h9,h10,h11⟩:=h
 have l2:=RAt.lt h2
 refine (hc (fun k => k = c ∨ vA.ownBlock = some k ∨ F2 k ∨ G k) ⟨F1,h1,h6,h10,fun k hk => ?_⟩).mono ?_
 · rcases hk with rfl | hk | hk | hk
   · exact ⟨h8.2.1,row_lt h4⟩
   · exact ⟨(h9 k hk).2.2.1,(h5.lt k hk).2⟩
   · exact ⟨(h7 k hk).2,l2 k hk⟩
   exact ⟨(h11 k hk).1,(h11 k hk).2.2.2.2⟩
 rintro e w' ⟨σ',hP,⟨F1',g1,g2,g3,g4⟩,hB⟩
 refine ⟨σ',hP,⟨ρ,F1',F2,vA,g1,h2.keep hB (fun k hk hn => hn (.inr (.inr (.inl hk)))),h3,hB.row h4 (.inl rfl),Ch.owns hB h5 (fun k hk hn => hn (.inr (.inl hk))),g2,fun k hk => ⟨(h7 k hk).1,(g4 k (.inr (.inr (.inl hk)))).1⟩,⟨h8.1,(g4 c (.inl rfl)).1,h8.2.2⟩,fun k hk => ⟨(h9 k hk).1,(h9 k hk).2.1,(g4 k (.inr (.inl hk))).1,(h9 k hk).2.2.2⟩,g3,fun k hk => ?_⟩,hB.less (fun k hk => .inr (.inr (.inr hk)))⟩
 obtain ⟨q1,q2,q3,q4,q5⟩:=h11 k hk
 exact ⟨(g4 k (.inr (.inr (.inr hk)))).1,q2,q3,q4,(g4 k (.inr (.inr (.inr hk)))).2⟩
theorem ScAt.refr (h:ScAt w0 w c s b σ τ root aside G) {f:Nat} {args:Array Value} {P:Ending → SlabSt Nd → Prop}
 (hc:∀ G',ROw w0 w b τ G' → Calls Tryz.prog f args w fun e w' => ∃ τ',P e τ' ∧ ROw w0 w' b τ' G' ∧ But G' w w') :
 Calls Tryz.prog f args w fun e w' => ∃ τ',P e τ' ∧ ScAt w0 w' c s b σ τ' root aside G ∧ But G w w':=by
 obtain ⟨ρ,F1,F2,vA,h1,h2,h3,h4,h5,h6,h7,h8,h9,h10,h11⟩:=h
 have l1:=At.lt h1
 refine (hc (fun k => k = c ∨ vA.ownBlock = some k ∨ F1 k ∨ G k) ⟨ρ,F2,h2,h3,fun k hk => (h7 k hk).1,h10,fun k hk => ?_⟩).mono ?_
 · rcases hk with rfl | hk | hk | hk
   · exact ⟨h8.2.2,row_lt h4⟩
   · exact ⟨(h9 k hk).2.2.2,(h5.lt k hk).2⟩
   · exact ⟨fun h => (h7 k h).2 hk,l1 k hk⟩
   exact ⟨(h11 k hk).2.1,(h11 k hk).2.2.2.2⟩
 rintro e w' ⟨τ',hP,⟨ρ',F2',g1,gL,g2,g3,g4⟩,hB⟩
 refine ⟨τ',hP,⟨ρ',F1,F2',vA,h1.keep hB (fun k hk hn => hn (.inr (.inr (.inl hk)))),g1,gL,hB.row h4 (.inl rfl),Ch.owns hB h5 (fun k hk hn => hn (.inr (.inl hk))),h6,fun k hk => ⟨g2 k hk,fun hf => (g4 k (.inr (.inr (.inl hf)))).1 hk⟩,⟨h8.1,h8.2.1,(g4 c (.inl rfl)).1⟩,fun k hk => ⟨(h9 k hk).1,(h9 k hk).2.1,(h9 k hk).2.2.1,(g4 k (.inr (.inl hk))).1⟩,g3,fun k hk => ?_⟩,hB.less (fun k hk => .inr (.inr (.inr hk)))⟩
 obtain ⟨q1,q2,q3,q4,q5⟩:=h11 k hk
 exact ⟨q1,(g4 k (.inr (.inr (.inr hk)))).1,q3,q4,(g4 k (.inr (.inr (.inr hk)))).2⟩
theorem ScAt.ow (h:ScAt w0 w c s b σ τ root aside G):Ow w0 w s σ G:=by
 obtain ⟨ρ,F1,F2,vA,h1,h2,h3,h4,h5,h6,h7,h8,h9,h10,h11⟩:=h
 exact ⟨F1,h1,h6,h10,fun k hk => ⟨(h11 k hk).1,(h11 k hk).2.2.2.2⟩⟩
theorem ScAt.row9 (h:ScAt w0 w c s b σ τ root aside G):ROw w0 w b τ G:=by
 obtain ⟨ρ,F1,F2,vA,h1,h2,h3,h4,h5,h6,h7,h8,h9,h10,h11⟩:=h
 exact ⟨ρ,F2,h2,h3,fun k hk => (h7 k hk).1,h10,fun k hk => ⟨(h11 k hk).2.1,(h11 k hk).2.2.2.2⟩⟩
theorem ScAt.setRoot (h:ScAt w0 w c s b σ τ root aside G) (r:Int):ScAt w0 (w.setCell ⟨c,2,none⟩ (.int .i64 r)) c s b σ τ r aside G:=by
 obtain ⟨ρ,F1,F2,vA,h1,h2,h3,h4,h5,h6,h7,h8,h9,h10,h11⟩:=h
 have hC:Ch (fun k => k = c) w (w.setCell ⟨c,2,none⟩ (.int .i64 r)):=(Ch.refl (fun k => k = c) w).setCell (p:=⟨c,2,none⟩) (.inl rfl) _
 have h4':=row_set_same h4 2 (.int .i64 r)
 refine ⟨ρ,F1,F2,vA,h1.keep hC (fun k hk e => h8.2.1 (e ▸ hk)),h2.keep hC (fun k hk e => h8.2.2 (e ▸ hk)),h3,h4',hC.owns h5 (fun k hk e => (h9 k hk).2.1 e),h6,h7,h8,h9,h10.setCell (p:=⟨c,2,none⟩) (.inr h8.1) _,fun k hk => ?_⟩
 obtain ⟨q1,q2,q3,q4,q5⟩:=h11 k hk
 exact ⟨q1,q2,q3,q4,by simpa using q5⟩
theorem ScAt.setAside (h:ScAt w0 w c s b σ τ root aside G) {ao:Option Addr} {n cap:Nat} (hr:w.heap[c]? = some (.cells #[.pointer (some ⟨s,0,none⟩),.pointer (some ⟨b,0,none⟩),.int .i64 root,.slice ao n cap] 45 (0,0)))
 {w4:World} {v':Value} {aside':List Int} (hch:Ch (fun k => (Value.slice ao n cap).ownBlock = some k) w w4) (own:w4.ownsRow 0 3 1 v' aside'.length (hl aside')) (ob:v'.ownBlock = (Value.slice ao n cap).ownBlock ∨ ∀ k,v'.ownBlock = some k → w.heap.size ≤ k) :
 ScAt w0 (w4.setCell ⟨c,3,none⟩ v') c s b σ τ root aside' G:=by
 obtain ⟨ρ,F1,F2,vA,h1,h2,h3,h4,h5,h6,h7,h8,h9,h10,h11⟩:=h
 rw [hr] at h4
 simp only [Option.some.injEq,Obj.cells.injEq,and_true,true_and,Array.mk.injEq,List.cons.injEq,and_self] at h4
 subst h4
 have l1:=At.lt h1
 have l2:=RAt.lt h2
 have lc:=row_lt hr
 have r4:=hch.row hr (fun e => (h9 c e).2.1 rfl)
 have r5:=row_set_same r4 3 v'
 have hC:Ch (fun k => k = c ∨ (Value.slice ao n cap).ownBlock = some k) w (w4.setCell ⟨c,3,none⟩ v'):=(hch.mono (G:=fun k => k = c ∨ (Value.slice ao n cap).ownBlock = some k) (fun _ _ h => .inr h)).setCell (p:=⟨c,3,none⟩) (.inl (.inl rfl)) _
 have hs5:(w4.setCell ⟨c,3,none⟩ v').heap.size = w4.heap.size:=by simp
 have hsz:=hch.size
 have hv:∀ k,v'.ownBlock = some k → w0.heap.size ≤ k ∧ k ≠ c ∧ ¬ F1 k ∧ ¬ F2 k ∧ ∀ j,G j → j ≠ k:=fun k hk => by
  rcases ob with e | e
  · rw [e] at hk
    exact ⟨(h9 k hk).1,(h9 k hk).2.1,(h9 k hk).2.2.1,(h9 k hk).2.2.2,fun j hj e => (h11 j hj).2.2.2.1 (e ▸ hk)⟩
  have:=e k hk
  have:=h10.size
  exact ⟨by omega,by omega,fun h => by have:=l1 k h; omega,fun h => by have:=l2 k h; omega,fun j hj e => by have:=(h11 j hj).2.2.2.2; omega⟩
 refine ⟨ρ,F1,F2,v',h1.keep hC (fun k hk e => ?_),h2.keep hC (fun k hk e => ?_),h3,r5,((Ch.refl (fun k => k = c) w4).setCell (p:=⟨c,3,none⟩) (.inl rfl) _).owns own (fun k hk e => (hv k hk).2.1 e),h6,h7,h8,fun k hk => ⟨(hv k hk).1,(hv k hk).2.1,(hv k hk).2.2.1,(hv k hk).2.2.2.1⟩,h10.trans hC (fun k hk => .inr ?_),fun k hk => ?_⟩
 · rcases e with rfl | e
   · exact h8.2.1 hk
   exact (h9 k e).2.2.1 hk
 · rcases e with rfl | e
   · exact h8.2.2 hk
   exact (h9 k e).2.2.2 hk
 · rcases hk with rfl | e
   · exact h8.1
   exact (h9 k e).1
 obtain ⟨q1,q2,q3,q4,q5⟩:=h11 k hk
 exact ⟨q1,q2,q3,fun e => (hv k e).2.2.2.2 k hk rfl,by rw [hs5]; omega⟩
end
end Go.Proofs.YtmeglndnkdgkoaaGreat.Store

/- Proved contracts and plain laws of the layers below, in one text. -/
import Derived.Test.YtmeglndnkdgkoaaGreatQd19
set_option maxHeartbeats 3200000
set_option maxRecDepth 100000
set_option linter.unusedVariables false
namespace Go.Proofs.YtmeglndnkdgkoaaGreat.Store
open Go Go.RowKit Go.Proofs.YtmeglndnkdgkoaaGreat Go.Proofs.YtmeglndnkdgkoaaGreat.ShaW Go.Proofs.YtmeglndnkdgkoaaGreat.Path
section
variable {w0 w : World} {s : Nat} {σ : SlabSt Nd} {F G : Nat → Prop}
theorem lookL_from (σ:SlabSt Nd) (key:List UInt8) (l:List Int):∀ (m:Nat) (st:Int), -1 ≤ (lookL σ key l m st).2.1 ∧ (lookL σ key l m st).2.1 < m ∧ ((lookL σ key l m st).2.2 = true → 0 ≤ (lookL σ key l m st).2.1)
 | 0,st => by unfold lookL; simp
 | m + 1,st => by
  unfold lookL
  split
  · obtain ⟨a,b,c⟩:=lookL_from σ key l m st
    exact ⟨a,by omega,c⟩
  split
  · exact ⟨by simp only; omega,by simp only; omega,fun h => by cases h⟩
  split
  · obtain ⟨a,b,c⟩:=lookL_from σ key l m (besideS σ key (l.getD m 0) m)
    exact ⟨a,by omega,c⟩
  exact ⟨by simp only; omega,by simp only; omega,fun _ => by simp only; omega⟩
theorem upL_last (k:List UInt8):∀ (l:List Int) (d:Nat) (σ:SlabSt Nd) (now h:Int),upL k d (l ++ [h]) σ now = upL k d l (stepS σ k h (d + l.length) now).2 (stepS σ k h (d + l.length) now).1
 | [],d,σ,now,h => rfl
 | x :: l,d,σ,now,h => by
  show stepS (upL k (d + 1) (l ++ [h]) σ now).2 k x d (upL k (d + 1) (l ++ [h]) σ now).1 = _
  rw [upL_last k l (d + 1) σ now h,show d + 1 + l.length = d + (x :: l).length by simp only [List.length_cons]; omega]
  rfl
noncomputable def cutS (σ:SlabSt Nd) (key:List UInt8) (l:List Int):Int × SlabSt Nd :=
 let L:=lookL σ key l l.length 0
 if L.2.2 = true then upL key 0 (l.take L.2.1.toNat) (joinS (heldS σ L.1) key L.2.1 0 L.1).2.2 (joinS (heldS σ L.1) key L.2.1 0 L.1).1
 else upL key 0 (l.take (L.2.1 + 1).toNat) (heldS σ L.1) L.1
noncomputable def delS (σ:SlabSt Nd) (root:Int) (key:List UInt8) (l:List Int):Int × SlabSt Nd:=((cutS σ key l).1,(dropS (cutS σ key l).2 root).2.2)
theorem Drop_hand (h:At w s F σ) (root:Int) (K:Array Value) (hh:atHand σ root ≠ 0) :
 Calls Tryz.prog 26 #[.pointer (some ⟨s,0,none⟩),.int .i64 root,.agg K] w fun e w' => e = .returned (.tuple #[.int .i64 0,.bool false,.int .i64 (atHand σ root)]) ∧ Adds w w':=by
 have a0:Adds w (w.alloc (.cells K 31)):=(Ch.refl (fun _ => False) w).alloc _
 have ha:=AtHand_ok (h.adds a0) root
 obtain ⟨er,her⟩:∃ x,x = atHand σ root:=⟨_,rfl⟩
 rw [← her] at ha hh ⊢
 have HA:=Lib.hid ha
 have A0:=Lib.hid a0
 clear h ha her a0
 go_enter Tryz.func26,Tryz.ntmps26
 go_wp2_with fail
 refine HA.out.mono ?_; rintro e w1 ⟨rfl,a1⟩
 go_wp2
 go_ret3
 exact ⟨rfl,A0.out.trans a1 (fun _ => fEq)⟩
theorem Drop_full (h:At w s F σ) (root:Int) (K:Array Value) (hh:atHand σ root = 0) (hf:fitsJ σ 1 = false) :
 Calls Tryz.prog 26 #[.pointer (some ⟨s,0,none⟩),.int .i64 root,.agg K] w fun e w' => e = .returned (.tuple #[.int .i64 0,.bool false,.int .i64 9]) ∧ Adds w w':=by
 have a0:Adds w (w.alloc (.cells K 31)):=(Ch.refl (fun _ => False) w).alloc _
 have ha:=AtHand_ok (h.adds a0) root
 have hft:=fun w1 (a:Adds w w1) => Fits_ok (h.adds a) 1
 rw [hh] at ha
 rw [hf] at hft
 have HA:=Lib.hid ha
 have A0:=Lib.hid a0
 have HF:=Lib.hid hft
 clear h ha a0 hft hf hh
 go_enter Tryz.func26,Tryz.ntmps26
 go_wp2_with fail
 refine HA.out.mono ?_; rintro e w1 ⟨rfl,a1⟩
 have A1:=Lib.hid (A0.out.trans a1 (fun _ => fEq))
 clear a1
 go_wp2_with fail
 refine (HF.out _ A1.out).mono ?_; rintro e w2 ⟨rfl,rfl⟩
 go_wp2
 go_ret3
 exact ⟨rfl,A1.out⟩
def DropAt (b0 pb:Nat) (K:Array Value) (ao:Option Addr) (cap:Nat) (l:List Int) (th:Bool) (st fr:Int) (an:Bool) (w:World):Prop :=
 w.heap[pb]? = some (.cells #[.slice ao l.length cap,.bool th,.int .i64 st,.int .i64 fr,.bool an] 142 (0,0)) ∧
 w.heap[b0]? = some (.cells K 31 (0,0)) ∧ w.ownsRow 0 3 1 (.slice ao l.length cap) l.length (hl l)
theorem DropAt.but {b0 pb cap:Nat} {K:Array Value} {ao:Option Addr} {l:List Int} {th an:Bool} {st fr:Int} {w w':World} (h:DropAt b0 pb K ao cap l th st fr an w) (c:But (PutG G b0 pb ao l.length cap) w w'):DropAt b0 pb K ao cap l th st fr an w' :=
 ⟨c.row h.1 (.inr (.inr (.inl rfl))),c.row h.2.1 (.inr (.inl rfl)),Ch.owns c h.2.2 (fun k hk hn => hn (.inr (.inr (.inr hk))))⟩
theorem DropAt.adds {b0 pb cap:Nat} {K:Array Value} {ao:Option Addr} {l:List Int} {th an:Bool} {st fr:Int} {w w':World} (h:DropAt b0 pb K ao cap l th st fr an w) (c:Adds w w'):DropAt b0 pb K ao cap l th st fr an w' :=
 ⟨c.row h.1 id,c.row h.2.1 id,c.owns h.2.2 (fun _ _ h => h)⟩
theorem Drop_no (hAt:At w s F σ) (GG:Good σ) (root:Int) (key:List UInt8) (hk:key.length = 32) (hh:atHand σ root = 0) (hf:fitsJ σ 1 = true)
 {l:List Int} {e1:Int} (ho:On (sk σ) key root 0 l e1) (hs:thereS σ key e1 = false) :
 Calls Tryz.prog 26 #[.pointer (some ⟨s,0,none⟩),.int .i64 root,.agg (brow key)] w fun e w' => e = .returned (.tuple #[.int .i64 root,.bool false,.int .i64 0]) ∧ Adds w w':=by
 obtain ⟨K,hK⟩:∃ K,K = brow key:=⟨_,rfl⟩
 have hKs:K.size = 32:=by rw [hK,brow_size,hk]
 have a0:Adds w (w.alloc (.cells K 31)):=(Ch.refl (fun _ => False) w).alloc _
 have ha:=AtHand_ok (hAt.adds a0) root
 have hft:=fun w1 (a:Adds w w1) => Fits_ok (hAt.adds a) 1
 have hlk:=fun w1 (a:Adds w w1) => look_ok (hAt.adds a) GG root key hk (rootErr_hand hh) ho
 rw [hh] at ha
 rw [hf] at hft
 rw [hs, ← hK] at hlk
 rw [← hK]
 obtain ⟨st,fr,an,hL⟩:∃ st fr an,lookL σ key l l.length 0 = (st,fr,an):=⟨_,_,_,rfl⟩
 rw [hL] at hlk
 have HA:=Lib.hid ha
 have A0:=Lib.hid a0
 have HF:=Lib.hid hft
 have HLK:=Lib.hid hlk
 have HK:=Lib.hid hKs
 clear hK ha a0 hft hf hh hlk hs ho GG hKs hL hAt
 go_enter Tryz.func26,Tryz.ntmps26
 go_wp2_with fail
 refine HA.out.mono ?_; rintro e w1 ⟨rfl,a1⟩
 have A1:=Lib.hid (A0.out.trans a1 (fun _ => fEq))
 have K1:=Lib.hid (a1.row (heap_alloc_new w (.cells K 31)) id)
 clear a1
 go_wp2_with fail
 refine (HF.out _ A1.out).mono ?_; rintro e w2 ⟨rfl,rfl⟩
 go_wp2_with (first
  | fail
  | ((with_reducible show zOq (.load 31 _)); refine wpList_load_part rfl 31 _ rfl w.heap.size 0 rfl K1.out Tryz.underlying31 rfl sizeP (by rw [HK.out]; omega) K (by simp [← HK.out]) ?_))
 refine (HLK.out _ A1.out).mono ?_; rintro e w2 ⟨v,rfl,o2,a2⟩
 obtain ⟨ao2,cap2,rfl⟩:=owns_form o2
 go_wp2_with fail
 go_ret3
 refine ⟨rfl,?_⟩
 have hb2:=A1.out.trans a2 (fun _ => fEq)
 have hsz:=hb2.size
 (repeat (first | with_reducible exact hb2 | with_reducible exact Ch.refl _ _ | with_reducible refine Ch.drew ?_ | with_reducible refine Ch.drewN ?_ _ | with_reducible refine Ch.alloc ?_ _ | with_reducible refine Ch.setCell ?_ (by first | exact .inr (by simp <;> omega) | (left; simp; done)) _ | with_reducible refine Ch.setRow ?_ (by first | exact .inr (by simp <;> omega) | (left; simp; done)) _))
theorem DropK_ok (h:Ow w0 w s σ G) (GG:Good σ) (root:Int) (key:List UInt8) (hk:key.length = 32) (hh:atHand σ root = 0) (hf:fitsJ σ 1 = true)
 {l:List Int} {e1:Int} (ho:On (sk σ) key root 0 l e1) (hs:thereS σ key e1 = true) :
 Calls Tryz.prog 26 #[.pointer (some ⟨s,0,none⟩),.int .i64 root,.agg (brow key)] w fun e w' => e = .returned (.tuple #[.int .i64 (delS σ root key l).1,.bool true,.int .i64 0]) ∧ Ow w0 w' s (delS σ root key l).2 G ∧ But G w w':=by
 obtain ⟨F,hAt⟩:=h.at
 obtain ⟨K,hK⟩:∃ K,K = brow key:=⟨_,rfl⟩
 have hKs:K.size = 32:=by rw [hK,brow_size,hk]
 have a0:Adds w (w.alloc (.cells K 31)):=(Ch.refl (fun _ => False) w).alloc _
 have ha:=AtHand_ok (hAt.adds a0) root
 have hft:=fun w1 (a:Adds w w1) => Fits_ok (hAt.adds a) 1
 have hlk:=fun w1 (a:Adds w w1) => look_ok (hAt.adds a) GG root key hk (rootErr_hand hh) ho
 have hll:l.length ≤ 256:=by have:=ho.len GG.fit (by omega); omega
 have hfr:=lookL_from σ key l l.length 0
 rw [hh] at ha
 rw [hf] at hft
 rw [hs, ← hK] at hlk
 rw [← hK]
 have hdel:delS σ root key l = ((cutS σ key l).1,(dropS (cutS σ key l).2 root).2.2):=rfl
 have hcut:cutS σ key l = (if (lookL σ key l l.length 0).2.2 = true then upL key 0 (l.take (lookL σ key l l.length 0).2.1.toNat) (joinS (heldS σ (lookL σ key l l.length 0).1) key (lookL σ key l l.length 0).2.1 0 (lookL σ key l l.length 0).1).2.2 (joinS (heldS σ (lookL σ key l l.length 0).1) key (lookL σ key l l.length 0).2.1 0 (lookL σ key l l.length 0).1).1
  else upL key 0 (l.take ((lookL σ key l l.length 0).2.1 + 1).toNat) (heldS σ (lookL σ key l l.length 0).1) (lookL σ key l l.length 0).1):=rfl
 obtain ⟨st,fr,an,hL⟩:∃ st fr an,lookL σ key l l.length 0 = (st,fr,an):=⟨_,_,_,rfl⟩
 rw [hL] at hlk hfr hcut
 simp only at hlk hfr hcut
 obtain ⟨cr,hcr⟩:∃ x,x = cutS σ key l:=⟨_,rfl⟩
 rw [← hcr] at hcut hdel
 have HA:=Lib.hid ha
 have A0:=Lib.hid a0
 have HF:=Lib.hid hft
 have HLK:=Lib.hid hlk
 have HK:=Lib.hid hKs
 have HKK:=Lib.hid hK
 have HO:=Lib.hid h
 have HCUT:=(hIq hcut hdel)
 have HFR:=Lib.hid hfr
 clear hK ha a0 hft hf hh hlk hs ho GG hKs hL hAt h hcr hcut hdel hfr
 go_enter Tryz.func26,Tryz.ntmps26
 go_wp2_with fail
 refine HA.out.mono ?_; rintro e w1 ⟨rfl,a1⟩
 have A1:=Lib.hid (A0.out.trans a1 (fun _ => fEq))
 have K1:=Lib.hid (a1.row (heap_alloc_new w (.cells K 31)) id)
 clear a1
 go_wp2_with fail
 refine (HF.out _ A1.out).mono ?_; rintro e w2 ⟨rfl,rfl⟩
 go_wp2_with (first
  | fail
  | ((with_reducible show zOq (.load 31 _)); refine wpList_load_part rfl 31 _ rfl w.heap.size 0 rfl K1.out Tryz.underlying31 rfl sizeP (by rw [HK.out]; omega) K (by simp [← HK.out]) ?_))
 refine (HLK.out _ A1.out).mono ?_; rintro e w2 ⟨v2,rfl,o2,a2⟩
 obtain ⟨ao2,cap2,rfl⟩:=owns_form o2
 have H2:=(hIq o2 a2)
 clear o2 a2
 go_upto_region 7 with (first
  | fail
  | ((with_reducible show zOq (.store 142 _ _)); refine wpList_store_part rfl 142 _ _ rfl w2.heap.size 0 #[.slice ao2 l.length cap2,.bool true,.int .i64 st,.int .i64 fr,.bool an] rfl rfl (heap_alloc_new _ _) sizePn (by simp) (by simp [Value.oneCell']) #[.slice ao2 l.length cap2,.bool true,.int .i64 st,.int .i64 fr,.bool an] (by simp [splice]) ?_))
 obtain ⟨w3,hw3⟩:∃ w3,w3 = (w2.alloc (.cells #[.slice none 0 0,.bool false,.int .i64 0,.int .i64 0,.bool false] 142)).setRow w2.heap.size #[.slice ao2 l.length cap2,.bool true,.int .i64 st,.int .i64 fr,.bool an]:=⟨_,rfl⟩
 rw [← hw3]
 have k2:=H2.out.2.row K1.out id
 have b12:=A1.out.trans H2.out.2 (fun _ => fEq)
 have z1:=A1.out.size
 have z2:=H2.out.2.size
 have z3:=row_lt k2
 have ad3:Adds w2 w3:=by rw [hw3]; exact ((Ch.refl _ _).alloc _).setRow (.inr (Nat.le_refl _)) _
 have zs3:w3.heap.size = w2.heap.size + 1:=by rw [hw3]; simp
 have pa:DropAt w.heap.size w2.heap.size K ao2 cap2 l true st fr an w3:=by
  refine ⟨?_,ad3.row k2 id,(ad3.owns H2.out.1 (fun _ _ h => h)).base (fun _ _ => Nat.zero_le _)⟩
  rw [hw3]
  exact row_setRow_same (heap_alloc_new _ _) _
 have aw3:Adds w w3:=b12.trans ad3 (fun _ => fEq)
 have o3:Ow w0 w3 s σ (PutG G w.heap.size w2.heap.size ao2 l.length cap2):=HO.out.more aw3 (fun k hk => by
  rcases hk with hk | rfl | rfl | hk
  · exact .inl hk
  · exact .inr ⟨Nat.le_refl _,by omega⟩
  · exact .inr ⟨by omega,by omega⟩
  have:=H2.out.1.lt k hk
  exact .inr ⟨by omega,by omega⟩)
 have H3:=(hIq pa (aIq aw3 o3))
 clear hw3 k2 b12 z1 z2 z3 ad3 zs3 pa aw3 o3 K1 H2 A1 A0 HLK HF HA HO
 have q1:=row_cell H3.out.1.1 (i:=1) rfl
 go_upto_region 9 with fail
 refine wp_region_plan (fun w0 => DropAt w.heap.size w2.heap.size K ao2 cap2 l true st fr an w0) 6 [(0,false),(1,false),(2,false),(3,false),(4,false),(5,false)] (by kernel_rfl) (by kernel_rfl) ?_ ?_
 · exact H3.out.1.adds (Ch.refl _ _).drew
 refine plan_look rfl rfl (fun w0 hS => (by clear hS; go_simp; try rfl)) ?_
 simp only [Act.put,nAq,nBq,nCq]
 refine plan_look (v:=.int .i64 st) rfl rfl (fun w0 hS => (by have e0:=row_cell hS.1 (i:=2) rfl; clear hS; go_simp; try rfl)) ?_
 simp only [Act.put,nAq,nBq,nCq]
 refine plan_look rfl rfl (fun w0 hS => (by clear hS; go_simp; try rfl)) ?_
 simp only [Act.put,nAq,nBq,nCq]
 refine plan_look (v:=.int .i64 fr) rfl rfl (fun w0 hS => (by have e0:=row_cell hS.1 (i:=3) rfl; clear hS; go_simp; try rfl)) ?_
 simp only [Act.put,nAq,nBq,nCq]
 iterate 2
  refine plan_look rfl rfl (fun w0 hS => (by clear hS; go_simp; try rfl)) ?_
  simp only [Act.put,nAq,nBq,nCq]
 refine plan_end ?_; simp only [List.drop_succ_cons,List.drop_zero]
 go_wp2
 refine NoPanic.normal ?_
 have H4:=(hIq (H3.out.1.adds (Ch.refl _ _).drew) (aIq (H3.out.2.1.drew) (H3.out.2.2.adds (Ch.refl _ _).drew)))
 clear q1 H3
 go_upto_if 36 with fail
 go_cut [] (fun wx => Ow w0 wx s (heldS σ st) (PutG G w.heap.size w2.heap.size ao2 l.length cap2) ∧ But (PutG G w.heap.size w2.heap.size ao2 l.length cap2) w3.drew wx)
 case first =>
  by_cases hst:st = 0
  · have e1':(st != 0) = false:=by simpa using hst
    have hhe:heldS σ st = σ:=by unfold heldS; rw [if_neg (by simpa using hst)]
    have HH:=Lib.hid hhe
    clear hst hhe
    go_wp2_with fail
    go_meet
    exact ⟨by rw [HH.out]; exact H4.out.2.2,Adds.but (Ch.refl _ _)⟩
  have e1':(st != 0) = true:=by simpa using hst
  have hhe:heldS σ st = (holdS σ st).2:=by unfold heldS; rw [if_pos hst]
  have HH:=Lib.hid hhe
  clear hst hhe
  go_wp2_with fail
  refine (H4.out.2.2.hold st).mono ?_; rintro e w5 ⟨rfl,o5,b5⟩
  have H5:=(hIq o5 b5)
  clear o5 b5
  go_wp2_with fail
  go_meet
  exact ⟨by rw [HH.out]; exact H5.out.1,H5.out.2⟩
 obtain ⟨oc,bc⟩:=hcut
 have H5:=(hIq (H4.out.1.but bc) (aIq oc bc))
 clear oc bc
 have q4:=row_cell H5.out.1.1 (i:=4) rfl
 go_upto_if 41 with fail
 go_cut [11,12] (fun s11 s12 wx => ∃ (m:Nat) (now:Int) (τ:SlabSt Nd) (x:Int),s11 = .int .i64 now ∧ s12 = .int .i64 x ∧ x = (m:Int) - 1 ∧ m ≤ l.length ∧ cr = upL key 0 (l.take m) τ now ∧ Ow w0 wx s τ (PutG G w.heap.size w2.heap.size ao2 l.length cap2) ∧ But (PutG G w.heap.size w2.heap.size ao2 l.length cap2) w3.drew wx)
 case first =>
  obtain ⟨f1,f2,f3⟩:=HFR.out
  cases an with
  | true =>
   have f4:=f3 rfl
   have hcr:=HCUT.out.1
   rw [if_pos rfl] at hcr
   have hjj:=djoin_ok H5.out.2.1 fr key hk 0 st
   rw [← HKK.out] at hjj
   have HJ:=Lib.hid hjj
   have HCR:=Lib.hid hcr
   have hf6:fr ≤ 256:=by omega
   have HF6:=(hIq f2 f4)
   clear hjj hcr f1 f2 f3
   go_wp2_with (first
    | fail
    | ((with_reducible show zOq (.load 31 _)); refine wpList_load_part rfl 31 _ rfl w.heap.size 0 rfl H5.out.1.2.1 Tryz.underlying31 rfl sizeP (by rw [HK.out]; omega) K (by simp [← HK.out]) ?_))
   refine HJ.out.mono ?_; rintro e w6 ⟨rfl,o6,b6⟩
   have H6:=(hIq o6 (H5.out.2.2.then b6))
   clear o6 b6
   go_wp2_with fail
   go_meet
   exact ⟨fr.toNat,_,_,_,rfl,rfl,by have:=HF6.out; omega,by have:=HF6.out; omega,HCR.out,H6.out.1,H6.out.2⟩
  | false =>
   have hcr:=HCUT.out.1
   rw [if_neg (by simp)] at hcr
   have HCR:=Lib.hid hcr
   have HF6:=(hIq f1 f2)
   clear hcr f1 f2 f3
   go_wp2_with fail
   go_meet
   exact ⟨(fr + 1).toNat,_,_,_,rfl,rfl,by have:=HF6.out; omega,by have:=HF6.out; omega,HCR.out,H5.out.2.1,H5.out.2.2⟩
 obtain ⟨m,n1,τ1,x1,rfl,rfl,hx1,hm1,hcr1,ho1,hb1⟩:=hcut
 have HM:=(hIq hx1 (aIq hm1 (aIq hcr1 (aIq ho1 hb1))))
 clear hx1 hm1 hcr1 ho1 hb1 q4 H5
 go_wp2_with fail
 go_loopg [11,12,13] m (fun g s11 s12 s13 wr => ∃ (now x:Int) (τ:SlabSt Nd),s11 = .int .i64 now ∧ s12 = .int .i64 x ∧ x = (g:Int) - 1 ∧ g ≤ l.length ∧ cr = upL key 0 (l.take g) τ now ∧ Ow w0 wr s τ (PutG G w.heap.size w2.heap.size ao2 l.length cap2) ∧ But (PutG G w.heap.size w2.heap.size ao2 l.length cap2) w3.drew wr)
 case atStart => exact ⟨n1,x1,τ1,rfl,rfl,HM.out.1,HM.out.2.1,HM.out.2.2.1,HM.out.2.2.2.1,HM.out.2.2.2.2⟩
 obtain ⟨now,x,τ,rfl,rfl,hx,hg,hcr,hO,hB⟩:=hrel
 have HP:=Lib.hid (H4.out.1.but hB)
 have HOB:=(hIq hO (aIq hB hcr))
 clear hO hB hcr
 rcases Nat.eq_zero_or_pos gk with h0 | h0
 · subst h0
   have hx1:decide ((0:Int) ≤ x) = false:=decide_eq_false (by omega)
   clear hx
   go_wp2_with fail
   refine (HOB.out.1.drop root).mono ?_; rintro e w9 ⟨rfl,o9,b9⟩
   have H9:=(hIq o9 (HOB.out.2.1.then b9))
   clear o9 b9
   go_wp2_with fail
   go_ret3
   have hc0:cr = (now,τ):=HOB.out.2.2
   refine ⟨?_,?_,?_⟩
   · rw [HCUT.out.2,hc0]; rfl
   · rw [HCUT.out.2,hc0]
     exact H9.out.1.less (fun k hk => .inl hk)
   exact (Adds.but H4.out.2.1).then (H9.out.2.less (fun k hk => .inl hk))
 obtain ⟨j,rfl⟩:∃ j,gk = j + 1:=⟨gk - 1,by omega⟩
 have hxe:x = (j:Int):=by omega
 subst hxe
 have hx1:decide ((0:Int) ≤ (j:Int)) = true:=decide_eq_true (by omega)
 have hlt:j < l.length:=by omega
 have hlti:(j:Int) < (l.length:Int):=by omega
 have hj256:(j:Int) ≤ 256:=by omega
 obtain ⟨h1,hget⟩:∃ h1,l[j]? = some h1:=⟨_,List.getElem?_eq_getElem hlt⟩
 obtain ⟨ga,hao⟩:∃ ga,ao2 = some ⟨ga,0,none⟩:=by
  obtain ⟨_,h | ⟨g0,cap',cur,h,_⟩⟩:=HP.out.2.2
  · exact absurd h.2 (by omega)
  injection h with h _ _
  exact ⟨g0,h⟩
 subst hao
 have hcell:wr.cell? ⟨ga,j,none⟩ = some (.int .i64 h1):=by
  rw [HP.out.2.2.cellAt j (by omega)]
  unfold Store.hl
  rw [List.getElem?_map,hget]
  rfl
 have hcr:=HOB.out.2.2
 rw [show l.take (j + 1) = l.take j ++ [h1] by rw [List.take_add_one,hget]; rfl,upL_last,List.length_take,Nat.min_eq_left (by omega),Nat.zero_add] at hcr
 unfold stepS at hcr
 obtain ⟨Fa,hFa⟩:=HOB.out.1.at
 have hcon:=fun w5 (a:Adds wr w5) => aside_ok (hFa.adds a) h1 j key hk
 obtain ⟨o,ho⟩:∃ o,o = besideS τ key h1 j:=⟨_,rfl⟩
 rw [← ho] at hcr hcon
 rw [← HKK.out] at hcon
 have HU:=Lib.hid hcr
 have HCON:=Lib.hid hcon
 have HCE:=Lib.hid hcell
 clear hcr hcon ho hcell hx h0 hget hFa
 go_wp2
 refine wp_region_plan (fun w0 => DropAt w.heap.size w2.heap.size K (some ⟨ga,0,none⟩) cap2 l true st fr an w0 ∧ w0.cell? ⟨ga,j,none⟩ = some (.int .i64 h1)) 9 [(0,false),(1,false),(2,false),(3,false),(4,false),(5,false),(6,false),(7,false),(8,true)] (by kernel_rfl) (by kernel_rfl) ?_ ?_
 · exact ⟨HP.out.adds (Ch.refl _ _).drew,HCE.out⟩
 iterate 2
  refine plan_look rfl rfl (fun w0 hS => (by clear hS; go_simp; try rfl)) ?_
  simp only [Act.put,nAq,nBq,nCq]
 refine plan_look (v:=.slice (some ⟨ga,0,none⟩) l.length cap2) rfl rfl (fun w0 hS => (by have e0:=row_cell hS.1.1 (i:=0) rfl; clear hS; go_simp; try rfl)) ?_
 simp only [Act.put,nAq,nBq,nCq]
 iterate 2
  refine plan_look rfl rfl (fun w0 hS => (by clear hS; go_simp; try rfl)) ?_
  simp only [Act.put,nAq,nBq,nCq]
 refine plan_look (v:=.int .i64 h1) rfl rfl (fun w0 hS => (by have e0:=hS.2; clear hS; go_simp; try rfl)) ?_
 simp only [Act.put,nAq,nBq,nCq]
 refine plan_look rfl rfl (fun w0 hS => (by clear hS; go_simp; try rfl)) ?_
 simp only [Act.put,nAq,nBq,nCq]
 refine plan_load_part (cur:=K) (t:=31) (fr:=(0,0)) rfl rfl 31 (.tmp 5) rfl w.heap.size 0 32 rfl (fun w0 hS => hS.1.2.1) Tryz.underlying31 rfl sizeP (by rw [HK.out]; omega) K (by simp [← HK.out]) ?_
 simp only [Act.put,nAq,nBq,nCq]
 refine plan_do rfl ?_
 go_wp2_with fail
 refine (HCON.out _ (Ch.refl _ _).drew).mono ?_; rintro e w6 ⟨rfl,a6⟩
 have a6':Adds wr w6:=((Ch.refl (fun _ => False) wr).drew).trans a6 (fun _ => fEq)
 have H6:=(hIq (HP.out.adds a6') (aIq (HOB.out.1.adds a6') (HOB.out.2.1.then (Adds.but a6'))))
 have HC6:=Lib.hid (a6'.cell HCE.out id)
 clear a6 a6' HCE
 dsimp only
 go_step
 refine wpList_nil ?_
 change _ ∧ _
 refine ⟨⟨H6.out.1,HC6.out⟩,?_⟩
 refine plan_end ?_; simp only [List.drop_succ_cons,List.drop_zero]
 go_wp2
 refine NoPanic.normal ?_
 by_cases hz:o = 0
 · have eo:(o != 0) = false:=by simpa using hz
   have ehs:heldS τ o = τ:=by unfold heldS; rw [if_neg (by simpa using hz)]
   have hU:=HU.out
   rw [ehs] at hU
   have HU2:=Lib.hid hU
   clear ehs hU hz
   have hjj:=djoin_ok H6.out.2.1 (j:Nat) key hk now o
   rw [← HKK.out] at hjj
   have HJ:=Lib.hid hjj
   clear hjj
   go_wp2_with (first
    | fail
    | ((with_reducible show zOq (.load 31 _)); refine wpList_load_part rfl 31 _ rfl w.heap.size 0 rfl H6.out.1.2.1 Tryz.underlying31 rfl sizeP (by rw [HK.out]; omega) K (by simp [← HK.out]) ?_))
   refine HJ.out.mono ?_; rintro e w9 ⟨rfl,o9,b9⟩
   have H9:=(hIq o9 (H6.out.2.2.then b9))
   clear o9 b9
   go_wp2_with fail
   go_roundg j
   case measure => omega
   exact ⟨_,_,_,rfl,rfl,by omega,by omega,HU2.out,H9.out.1,H9.out.2⟩
 have eo:(o != 0) = true:=by simpa using hz
 have ehs:heldS τ o = (holdS τ o).2:=by unfold heldS; rw [if_pos hz]
 have hU:=HU.out
 rw [ehs] at hU
 have HU2:=Lib.hid hU
 clear ehs hU hz
 go_wp2_with fail
 refine (H6.out.2.1.hold o).mono ?_; rintro e w7 ⟨rfl,o7,b7⟩
 have H7:=(hIq (H6.out.1.but b7) (aIq o7 (H6.out.2.2.then b7)))
 clear o7 b7
 have hjj:=djoin_ok H7.out.2.1 (j:Nat) key hk now o
 rw [← HKK.out] at hjj
 have HJ:=Lib.hid hjj
 clear hjj
 go_wp2_with (first
  | fail
  | ((with_reducible show zOq (.load 31 _)); refine wpList_load_part rfl 31 _ rfl w.heap.size 0 rfl H7.out.1.2.1 Tryz.underlying31 rfl sizeP (by rw [HK.out]; omega) K (by simp [← HK.out]) ?_))
 refine HJ.out.mono ?_; rintro e w9 ⟨rfl,o9,b9⟩
 have H9:=(hIq o9 (H7.out.2.2.then b9))
 clear o9 b9
 go_wp2_with fail
 go_roundg j
 case measure => omega
 exact ⟨_,_,_,rfl,rfl,by omega,by omega,HU2.out,H9.out.1,H9.out.2⟩
end
theorem side_count (d:Nat) (L:Ents):(sideE 0 d L).length + (sideE 1 d L).length = L.length:=by
 unfold sideE
 induction L with
 | nil => rfl
 | cons p L ih =>
  rw [List.filter_cons,List.filter_cons]
  rcases kbit_cases p.1 d with h | h
  · simp only [h]
    simp
    omega
  simp only [h]
  simp
  omega
theorem sides_ok {L:Ents} {k:List UInt8} {d:Nat} (hO:L.Ok k d) (b:Nat):∃ k',Ents.Ok (sideE b d L) k' (d + 1):=by
 match hL:sideE b d L with
 | [] => exact ⟨k,by simp [keysOf],by simp,by simp⟩
 | p :: R =>
  have hm:∀ q ∈ sideE b d L,q ∈ L ∧ kbit q.1 d = b:=fun q hq => ⟨(List.mem_filter.1 hq).1,by simpa using (List.mem_filter.1 hq).2⟩
  have hp:=hm p (by rw [hL]; simp)
  refine ⟨p.1,?_⟩
  rw [← hL]
  exact ⟨(hO.filter _).nodup,(hO.filter _).len,fun q hq => ((hO.pre q (hm q hq).1).trans (hO.pre p hp.1).symm).next (by rw [(hm q hq).2,hp.2])⟩
theorem leaves_tree:∀ (m:Nat),m ≤ 256 → ∀ {L:Ents} {k:List UInt8},L.Ok k (256 - m) → (tree m L).leaves = L.length:=by
 intro m
 induction m with
 | zero =>
  intro _ L k hO
  have hf:=hO.few
  match L,hf with
  | [],_ => rfl
  | [p],_ => rfl
  | _ :: _ :: _,hf => simp at hf
 | succ m ih =>
  intro hm L k hO
  match hL:L,hO with
  | [],_ => rfl
  | [p],_ => rfl
  | p :: q :: R,hO =>
   rw [← hL] at hO ⊢
   obtain ⟨k0,o0⟩:=sides_ok hO 0
   obtain ⟨k1,o1⟩:=sides_ok hO 1
   rw [show 256 - (m + 1) + 1 = 256 - m by omega,show 256 - (m + 1) = 255 - m by omega] at o0 o1
   rw [tree_two (by rw [hL]; simp)]
   show (tree m _).leaves + (tree m _).leaves = _
   rw [ih (by omega) o0,ih (by omega) o1,side_count]
section
variable {σ σ2 : SlabSt Nd} {root : Int} {L : Ents} {key bs : List UInt8} {s : Nat}
theorem Db.count (D:Db σ root L):(tree 256 L).leaves = L.length:=leaves_tree 256 (Nat.le_refl _) (k := []) (Ents.Ok.any D.nodup D.len [])
theorem hold_db (D:Db σ root L) (h0:root ≠ 0) (ht:total σ < 1073741824) :
 (holdS σ root).1 = 0 ∧ Db (holdS σ root).2 root L ∧ (∀ k,sk (holdS σ root).2 k = sk σ k) ∧ (∀ k,held (holdS σ root).2 k = if k = root then held σ root + 1 else held σ k) ∧
  live (holdS σ root).2 = live σ ∧ total (holdS σ root).2 = total σ + 1 ∧ (holdS σ root).2.room = σ.room:=by
 have hh:1 ≤ held σ root:=by
  rcases D.held with h | h
  · exact absurd h h0
  exact h
 obtain ⟨x,hx,_⟩:=held_there hh
 obtain ⟨h1,h2,h3,h4,h5,h6⟩:=holdS_spec D.good.sound hx (by have:=count_le hx; omega)
 refine ⟨h1,⟨D.good.hold root,?_,D.nodup,D.len,.inr (by rw [h3,if_pos rfl]; omega)⟩,h2,h3,h4,h5,h6⟩
 rw [show sk (holdS σ root).2 = sk σ from funext h2]
 exact D.rep
theorem Ow.own {w0 w w':World} {G:Nat → Prop} (h:Ow w0 w s σ G) (hc:Ch (fun k => G k ∧ w0.heap.size ≤ k) w w'):Ow w0 w' s σ G:=by
 obtain ⟨F,h1,h2,h3,h4⟩:=h
 exact ⟨F,h1.keep hc (fun k hk hg => (h4 k hg.1).1 hk),h2,h3.trans hc (fun k hk => .inr hk.2),fun k hk => ⟨(h4 k hk).1,Nat.lt_of_lt_of_le (h4 k hk).2 hc.size⟩⟩
end
section
variable {w0 w : World} {s : Nat} {σ σ' σ0 σ1 : SlabSt Nd} {F G : Nat → Prop} {root r now : Int} {t : Tr} {L L' : Ents} {key bs : List UInt8} {n : Nat} {R R' : List (Int × Ents)}
theorem held_none0 (σ:SlabSt Nd):Store.held σ 0 = 0:=rfl
structure Step (σ σ':SlabSt Nd) (root r:Int):Prop where
 good:Good σ'
 agree:∀ k x,sk σ k = some x → sk σ' k = none ∨ sk σ' k = some x
 held:∀ k,k ≠ 0 → Store.held σ' k = Store.held σ k - (if k = root then 1 else 0) + (if k = r then 1 else 0)
theorem Step.refl (h:Good σ) (root:Int):Step σ σ root root:=⟨h,fun _ _ hx => .inr hx,fun k _ => by split <;> omega⟩
theorem Step.keep (h:Step σ σ' root r) (hz:sk σ 0 = none) {k:Int} {d:Nat} {t:Tr} (hr:Rep (sk σ) k d t) (h0:k = 0 ∨ ∃ y,sk σ' k = some y):Rep (sk σ') k d t:=by
 have back:∀ k n,sk σ k = some n → (k = 0 ∨ ∃ m,sk σ' k = some m) → sk σ' k = some n:=fun k n hn hk => by
  rcases hk with rfl | ⟨m,hm⟩
  · rw [hz] at hn; cases hn
  rcases h.agree k n hn with e | e
  · rw [e] at hm; cases hm
  exact e
 have hc:=Sound.closed h.good.sound
 induction hr with
 | nil => exact .nil
 | leaf hn hk => exact .leaf (back _ _ hn h0) hk
 | node hn hk hd _ _ ihl ihr =>
  have:=back _ _ hn h0
  exact .node this hk hd (ihl (hc _ _ this).1) (ihr (hc _ _ this).2)
theorem held_there' {k:Int} (h:1 ≤ Store.held σ k):∃ x,sk σ k = some x:=by
 obtain ⟨x,hx,_⟩:=held_there h
 exact ⟨_,sk_some hx⟩
theorem held_gone {k:Int} (h:sk σ k = none) (hs:Sound σ []):Store.held σ k = 0:=by
 have hn:=held_nonneg hs k
 by_cases e:1 ≤ Store.held σ k
 · obtain ⟨x,hx⟩:=held_there' e
   rw [h] at hx; cases hx
 omega
theorem dropS_held' (hs:Sound σ []) {h:Int} (hh:1 ≤ Store.held σ h) (k:Int):Store.held (dropS σ h).2.2 k = Store.held σ k - (if k = h then 1 else 0):=by
 obtain ⟨_,_,_,g3,g4,_,_,_⟩:=dropS_spec hs hh
 have hd:=dropS_held hs hh k
 have hn:=held_nonneg hs k
 by_cases e:k = h
 · subst e
   rw [if_pos rfl] at hd ⊢
   by_cases h2:2 ≤ Store.held σ k
   · exact (g4 h2).2
   rcases hd with e | e <;> omega
 rw [if_neg e] at hd ⊢
 by_cases h1:1 ≤ Store.held σ k
 · rw [(g3 k e h1).2]; omega
 rcases hd with e | e <;> omega
theorem dropS_step (G:Good σ) {h:Int} (hh:1 ≤ Store.held σ h):Step σ (dropS σ h).2.2 h 0:=by
 obtain ⟨_,_,g2,_⟩:=dropS_spec G.sound hh
 refine ⟨G.drop h,fun k x hx => ?_,fun k hk => by rw [dropS_held' G.sound hh,if_neg hk]; omega⟩
 rcases g2 k with e | e
 · exact .inl e
 exact .inr (e.trans hx)
theorem PutMid.held' (h:PutMid σ0 σ key now 0 t n) (G:Good σ0) (k:Int):Store.held σ k = Store.held σ0 k + (if k = now then 1 else 0):=by
 have hn:=held_nonneg h.good.sound k
 by_cases e:k = now
 · subst e
   rw [if_pos rfl,h.one,held_gone h.fresh G.sound]
   rfl
 rw [if_neg e]
 cases hx:sk σ0 k with
 | some x => rw [(h.old k x hx).2]; omega
 | none =>
  rw [held_gone hx G.sound]
  by_cases h1:1 ≤ Store.held σ k
  · rcases h.only k h1 with h2 | h2
    · exact absurd h2 e
    rw [held_gone hx G.sound] at h2; omega
  omega
theorem PutMid.step (h:PutMid σ0 σ key now 0 t n) (G:Good σ0) (hh:root = 0 ∨ 1 ≤ Store.held σ0 root):Step σ0 (if root ≠ 0 then (dropS σ root).2.2 else σ) root now:=by
 have hh':=h.held' G
 by_cases h0:root = 0
 · rw [if_neg (by simpa using h0)]
   exact ⟨h.good,fun k x hx => .inr (h.old k x hx).1,fun k hk => by rw [hh',h0,if_neg hk]; omega⟩
 rw [if_pos h0]
 have hr:=hh.resolve_left h0
 have hr1:1 ≤ Store.held σ root:=by rw [hh']; split <;> omega
 have hd:=dropS_step h.good hr1
 refine ⟨hd.good,fun k x hx => hd.agree k x (h.old k x hx).1,fun k hk => ?_⟩
 rw [hd.held k hk,hh',if_neg hk]
 omega
def roots (R:List (Int × Ents)) (k:Int):Nat:=R.countP (fun p => p.1 == k)
theorem roots_cons (p:Int × Ents) (R:List (Int × Ents)) (k:Int):roots (p :: R) k = roots R k + (if k = p.1 then 1 else 0):=by
 unfold roots
 rw [List.countP_cons]
 by_cases e:k = p.1
 · simp [e]
 have:¬ p.1 = k:=fun h => e h.symm
 simp [e,this]
theorem roots_pos {p:Int × Ents} (h:p ∈ R):1 ≤ roots R p.1:=List.countP_pos_iff.2 ⟨p,h,by simp⟩
structure Roots (σ:SlabSt Nd) (R:List (Int × Ents)):Prop where
 good:Good σ
 held:∀ k,k ≠ 0 → Store.held σ k = (roots R k:Nat)
 rep:∀ p ∈ R,Rep (sk σ) p.1 0 (tree 256 p.2)
 nodup:∀ p ∈ R,(keysOf p.2).Nodup
 len:∀ p ∈ R,∀ q ∈ p.2,q.1.length = 32
theorem Roots.new (n:Nat) (h1:1 ≤ n) (h2:n ≤ 65536):Roots ⟨n,[],[]⟩ []:=by
 refine ⟨Good.new n h1 h2,fun k hk => ?_,fun p hp => (by cases hp),fun p hp => (by cases hp),fun p hp => (by cases hp)⟩
 rw [held_gone (by unfold sk SlabSt.get?; split <;> simp [Option.filter]) (Good.new n h1 h2).sound]
 rfl
theorem Roots.perm (h:Roots σ R) (hp:R.Perm R'):Roots σ R' :=
 ⟨h.good,fun k hk => by rw [h.held k hk]; unfold roots; rw [hp.countP_eq],fun p hm => h.rep p (hp.mem_iff.2 hm),fun p hm => h.nodup p (hp.mem_iff.2 hm),fun p hm => h.len p (hp.mem_iff.2 hm)⟩
theorem Roots.there (h:Roots σ R) {p:Int × Ents} (hp:p ∈ R):p.1 = 0 ∨ 1 ≤ Store.held σ p.1:=by
 by_cases e:p.1 = 0
 · exact .inl e
 right
 rw [h.held _ e]
 have:=roots_pos hp
 omega
theorem Roots.db (h:Roots σ R) {p:Int × Ents} (hp:p ∈ R):Db σ p.1 p.2:=⟨h.good,h.rep p hp,h.nodup p hp,h.len p hp,h.there hp⟩
theorem Db.roots (D:Db σ root L) (hs:Sole σ root):Roots σ [(root,L)]:=by
 refine ⟨D.good,fun k hk => ?_,fun p hp => ?_,fun p hp => ?_,fun p hp => ?_⟩
 · rw [roots_cons]
   have hn:=held_nonneg D.good.sound k
   show _ = ((0 + _:Nat):Int)
   by_cases e:k = root
   · rw [if_pos e]
     rcases D.held with h | h
     · exact absurd (e.trans h) hk
     rw [e]; have:=(hs root h).2; omega
   rw [if_neg e]
   by_cases h1:1 ≤ Store.held σ k
   · exact absurd (hs k h1).1 e
   omega
 · obtain rfl:=List.mem_singleton.1 hp; exact D.rep
 · obtain rfl:=List.mem_singleton.1 hp; exact D.nodup
 obtain rfl:=List.mem_singleton.1 hp; exact D.len
theorem Roots.step (h:Roots σ ((root,L) :: R)) (hs:Step σ σ' root r) (hr:Rep (sk σ') r 0 (tree 256 L')) (hn:(keysOf L').Nodup) (hl:∀ q ∈ L',q.1.length = 32):Roots σ' ((r,L') :: R):=by
 have hz:=h.good.fit.zero
 have hh:∀ k,k ≠ 0 → Store.held σ' k = (roots ((r,L') :: R) k:Nat):=fun k hk => by
  rw [hs.held k hk,h.held k hk,roots_cons,roots_cons]
  simp only
  (repeat' split) <;> omega
 refine ⟨hs.good,hh,fun p hp => ?_,fun p hp => ?_,fun p hp => ?_⟩
 · rcases List.mem_cons.1 hp with rfl | hp'
   · exact hr
   refine hs.keep hz (h.rep p (List.mem_cons_of_mem _ hp')) ?_
   by_cases e:p.1 = 0
   · exact .inl e
   right
   refine held_there' ?_
   rw [hh _ e]
   have:=roots_pos hp
   omega
 · rcases List.mem_cons.1 hp with rfl | hp
   · exact hn
   exact h.nodup p (List.mem_cons_of_mem _ hp)
 rcases List.mem_cons.1 hp with rfl | hp
 · exact hl
 exact h.len p (List.mem_cons_of_mem _ hp)
theorem Roots.less (h:Roots σ ((0,L) :: R)):Roots σ R :=
 ⟨h.good,fun k hk => by rw [h.held k hk,roots_cons,if_neg hk]; rfl,fun p hp => h.rep p (List.mem_cons_of_mem _ hp),fun p hp => h.nodup p (List.mem_cons_of_mem _ hp),fun p hp => h.len p (List.mem_cons_of_mem _ hp)⟩
theorem Roots.zero (h:Roots σ R):Roots σ ((0,[]) :: R):=by
 refine ⟨h.good,fun k hk => by rw [h.held k hk,roots_cons,if_neg hk]; rfl,fun p hp => ?_,fun p hp => ?_,fun p hp => ?_⟩
 · rcases List.mem_cons.1 hp with rfl | hp
   · exact .nil
   exact h.rep p hp
 · rcases List.mem_cons.1 hp with rfl | hp
   · exact List.nodup_nil
   exact h.nodup p hp
 rcases List.mem_cons.1 hp with rfl | hp
 · exact fun q hq => by cases hq
 exact h.len p hp
theorem Roots.live (h:Roots σ R) {p:Int × Ents} (hp:p ∈ R) (ho:∀ q ∈ R,q.1 = 0 ∨ q.1 = p.1):Store.live σ = (tree 256 p.2).nodes :=
 live_nodes h.good (h.rep p hp) fun k hk => by
  have h0:k ≠ 0:=fun e => by rw [e,held_none0] at hk; omega
  rw [h.held k h0] at hk
  obtain ⟨q,hq,e⟩:=List.countP_pos_iff.1 (show 0 < R.countP (fun p => p.1 == k) by unfold roots at hk; omega)
  have e':q.1 = k:=by simpa using e
  rcases ho q hq with h1 | h1
  · exact absurd (e'.symm.trans h1) h0
  rw [← e',h1]
theorem Roots.hold (h:Roots σ ((root,L) :: R)) (h0:root ≠ 0) (ht:Store.total σ < 1073741824):(holdS σ root).1 = 0 ∧ Roots (holdS σ root).2 ((root,L) :: (root,L) :: R) ∧ Store.live (holdS σ root).2 = Store.live σ ∧ Store.total (holdS σ root).2 = Store.total σ + 1 ∧ (holdS σ root).2.room = σ.room:=by
 obtain ⟨h1,h2,h3,h4,h5,h6,h7⟩:=hold_db (h.db (List.mem_cons_self ..)) h0 ht
 have e:sk (holdS σ root).2 = sk σ:=funext h3
 refine ⟨h1,⟨h2.good,fun k hk => ?_,fun p hp => ?_,fun p hp => ?_,fun p hp => ?_⟩,h5,h6,h7⟩
 · rw [h4,roots_cons]
   by_cases e:k = root
   · subst e; rw [if_pos rfl,if_pos rfl,h.held _ hk]; omega
   rw [if_neg e,if_neg e,h.held k hk]; omega
 · rw [e]
   rcases List.mem_cons.1 hp with rfl | hp
   · exact h.rep _ (List.mem_cons_self ..)
   exact h.rep p hp
 · rcases List.mem_cons.1 hp with rfl | hp
   · exact h.nodup _ (List.mem_cons_self ..)
   exact h.nodup p hp
 rcases List.mem_cons.1 hp with rfl | hp
 · exact h.len _ (List.mem_cons_self ..)
 exact h.len p hp
theorem Roots.drop (h:Roots σ ((root,L) :: R)) (h0:root ≠ 0):(dropS σ root).2.1 = 0 ∧ Roots (dropS σ root).2.2 R ∧ Store.live (dropS σ root).2.2 ≤ Store.live σ ∧ Store.total (dropS σ root).2.2 ≤ Store.total σ ∧ (dropS σ root).2.2.room = σ.room:=by
 have hh:=(h.there (List.mem_cons_self ..)).resolve_left h0
 obtain ⟨g0,_,_,_,_,g5,g6,g7⟩:=dropS_spec h.good.sound hh
 exact ⟨g0,(h.step (L' := []) (dropS_step h.good hh) .nil List.nodup_nil (fun q hq => by cases hq)).less,g5,g6,g7⟩
theorem upd_fine (hn:(keysOf L).Nodup) (hl:∀ q ∈ L,q.1.length = 32) (hk:key.length = 32):(keysOf (upd L key bs)).Nodup ∧ ∀ p ∈ upd L key bs,p.1.length = 32:=by
 refine ⟨List.nodup_cons.2 ⟨fun hm => ?_,hn.sublist (keys_filter L _)⟩,fun p hp => ?_⟩
 · obtain ⟨p,hp,e⟩:=List.mem_map.1 hm
   have:=(List.mem_filter.1 hp).2
   simp [e] at this
 rcases List.mem_cons.1 hp with e | hp
 · rw [e]; exact hk
 exact hl p (List.mem_filter.1 hp).1
structure WroteR (σ σ':SlabSt Nd) (root r:Int) (n m:Nat):Prop where
 step:Step σ σ' root r
 live:Store.live σ' ≤ Store.live σ + n
 total:Store.total σ' ≤ Store.total σ + m
 room:σ'.room = σ.room
end
end Go.Proofs.YtmeglndnkdgkoaaGreat.Store

/- Proved contracts and plain laws of the layers below, in one text. -/
import Derived.Test.YtmeglndnkdgkoaaGreatQd32
set_option maxHeartbeats 3200000
set_option maxRecDepth 100000
set_option linter.unusedVariables false
namespace Go.Proofs.YtmeglndnkdgkoaaGreat.Store
open Go Go.RowKit Go.Proofs.YtmeglndnkdgkoaaGreat Go.Proofs.YtmeglndnkdgkoaaGreat.ShaW Go.Proofs.YtmeglndnkdgkoaaGreat.Path
section
variable {w0 w : World} {s : Nat} {σ : SlabSt Nd} {F G : Nat → Prop} {root : Int} {t : Tr} {L : Ents} {key : List UInt8} {l : List Int} {e : Int}
theorem DCost_hand (h:At w s F σ) (root:Int) (K:Array Value) (hh:atHand σ root ≠ 0) :
 Calls Tryz.prog 24 #[.pointer (some ⟨s,0,none⟩),.int .i64 root,.agg K] w fun e w' => e = .returned (.tuple #[.int .i64 0,.int .i64 (atHand σ root)]) ∧ Adds w w':=by
 have a0:Adds w (w.alloc (.cells K 31)):=(Ch.refl (fun _ => False) w).alloc _
 have ha:=AtHand_ok (h.adds a0) root
 obtain ⟨er,her⟩:∃ x,x = atHand σ root:=⟨_,rfl⟩
 rw [← her] at ha hh ⊢
 have HA:=Lib.hid ha
 have A0:=Lib.hid a0
 clear h ha her a0
 go_enter Tryz.func24,Tryz.ntmps24
 go_wp2_with fail
 refine HA.out.mono ?_; rintro e w1 ⟨rfl,a1⟩
 go_wp2
 go_ret2
 exact ⟨rfl,A0.out.trans a1 (fun _ => fEq)⟩
theorem DCost_ok (hAt:At w s F σ) (GG:Good σ) (root:Int) (key:List UInt8) (hk:key.length = 32) (hh:atHand σ root = 0)
 {l:List Int} {e1:Int} (ho:On (sk σ) key root 0 l e1) :
 Calls Tryz.prog 24 #[.pointer (some ⟨s,0,none⟩),.int .i64 root,.agg (brow key)] w fun e w' => e = .returned (.tuple #[.int .i64 (if thereS σ key e1 = true then (lookL σ key l l.length 0).2.1 + 1 else 0),.int .i64 0]) ∧ Adds w w':=by
 obtain ⟨K,hK⟩:∃ K,K = brow key:=⟨_,rfl⟩
 have hKs:K.size = 32:=by rw [hK,brow_size,hk]
 have a0:Adds w (w.alloc (.cells K 31)):=(Ch.refl (fun _ => False) w).alloc _
 have ha:=AtHand_ok (hAt.adds a0) root
 have hlk:=fun w1 (a:Adds w w1) => look_ok (hAt.adds a) GG root key hk (rootErr_hand hh) ho
 have hll:l.length ≤ 256:=by have:=ho.len GG.fit (by omega); omega
 obtain ⟨f1,f2,_⟩:=lookL_from σ key l l.length 0
 rw [hh] at ha
 obtain ⟨th,hth⟩:∃ x,x = thereS σ key e1:=⟨_,rfl⟩
 rw [← hth, ← hK] at hlk
 rw [← hth, ← hK]
 obtain ⟨st,fr,an,hL⟩:∃ st fr an,lookL σ key l l.length 0 = (st,fr,an):=⟨_,_,_,rfl⟩
 rw [hL] at hlk f1 f2 ⊢
 simp only at f1 f2 ⊢
 have HA:=Lib.hid ha
 have A0:=Lib.hid a0
 have HLK:=Lib.hid hlk
 have HK:=Lib.hid hKs
 have f3:fr < 257:=by omega
 clear hK ha a0 hh hlk ho GG hKs hL hAt f2 hll hth
 go_enter Tryz.func24,Tryz.ntmps24
 go_wp2_with fail
 refine HA.out.mono ?_; rintro e w1 ⟨rfl,a1⟩
 have A1:=Lib.hid (A0.out.trans a1 (fun _ => fEq))
 have K1:=Lib.hid (a1.row (heap_alloc_new w (.cells K 31)) id)
 clear a1
 have hrow:=row_alloc (heap_alloc_new w1 (.cells #[.slice none 0 0,.bool false,.int .i64 0,.int .i64 0,.bool false] 142))
 clear hrow
 go_wp2_with (first
  | fail
  | ((with_reducible show zOq (.load 31 _)); refine wpList_load_part rfl 31 _ rfl w.heap.size 0 rfl K1.out Tryz.underlying31 rfl sizeP (by rw [HK.out]; omega) K (by simp [← HK.out]) ?_))
 refine (HLK.out _ A1.out).mono ?_; rintro e w2 ⟨v2,rfl,o2,a2⟩
 obtain ⟨ao2,cap2,rfl⟩:=owns_form o2
 have H2:=Lib.hid (A1.out.trans a2 (fun _ => fEq))
 clear o2 a2
 go_upto_region 5 with (first
  | fail
  | ((with_reducible show zOq (.store 142 _ _)); refine wpList_store_part rfl 142 _ _ rfl w2.heap.size 0 #[.slice ao2 l.length cap2,.bool th,.int .i64 st,.int .i64 fr,.bool an] rfl rfl (heap_alloc_new _ _) sizePn (by simp) (by simp [Value.oneCell']) #[.slice ao2 l.length cap2,.bool th,.int .i64 st,.int .i64 fr,.bool an] (by simp [splice]) ?_))
 obtain ⟨w3,hw3⟩:∃ w3,w3 = (w2.alloc (.cells #[.slice none 0 0,.bool false,.int .i64 0,.int .i64 0,.bool false] 142)).setRow w2.heap.size #[.slice ao2 l.length cap2,.bool th,.int .i64 st,.int .i64 fr,.bool an]:=⟨_,rfl⟩
 rw [← hw3]
 have ad3:Adds w2 w3:=by rw [hw3]; exact ((Ch.refl _ _).alloc _).setRow (.inr (Nat.le_refl _)) _
 have r3:w3.heap[w2.heap.size]? = some (.cells #[.slice ao2 l.length cap2,.bool th,.int .i64 st,.int .i64 fr,.bool an] 142 (0,0)):=by
  rw [hw3]
  exact row_setRow_same (heap_alloc_new _ _) _
 have H3:=Lib.hid (H2.out.trans ad3 (fun _ => fEq))
 have q1:=row_cell r3 (i:=1) rfl
 have q3:=row_cell r3 (i:=3) rfl
 clear hw3 ad3 r3 K1 H2 A1 A0 HLK HA
 cases th with
 | true =>
  go_wp2_with fail
  go_ret2
  refine ⟨?_,H3.out⟩
  first | rfl | (rw [if_pos rfl,wrap_nat_free (by omega) (by omega)])
 | false =>
  go_wp2_with fail
  go_ret2
  exact ⟨rfl,H3.out⟩
end
section
variable {w0 w w' : World} {b : Nat} {σ : SlabSt Nd} {F G : Nat → Prop}
theorem DCost10_hand (h:ROw w0 w b σ G) (GG:Good σ) (root:Int) (K:Array Value) (hh:atHand σ root ≠ 0) :
 Calls Tryz.prog 25 #[.pointer (some ⟨b,0,none⟩),.int .i64 root,.agg K] w fun e w' => e = .returned (.tuple #[.int .i64 0,.int .i64 (atHand σ root)]) ∧ Adds w w':=by
 have a0:Adds w (w.alloc (.cells K 31)):=(Ch.refl (fun _ => False) w).alloc _
 have hw:=R9AtHand_ok (h.adds a0) GG root
 obtain ⟨er,her⟩:∃ x,x = atHand σ root:=⟨_,rfl⟩
 rw [← her] at hw hh ⊢
 have hn:(er != 0) = true:=by simpa using hh
 have HW:=Lib.hid hw
 have A0:=Lib.hid a0
 clear h a0 hw her
 go_enter Tryz.func25,Tryz.ntmps25
 go_wp2_with fail
 refine HW.out.mono ?_; rintro e w1 ⟨rfl,a1⟩
 go_wp2
 go_ret2
 exact ⟨rfl,A0.out.trans a1 (fun _ => fEq)⟩
theorem beside_kind (GG:Good σ) {root e1:Int} {t:Tr} {key:List UInt8} {l:List Int} (ht:Rep (sk σ) root 0 t) (ho:On (sk σ) key root 0 l e1) {j:Nat} (hj:j < l.length) (h0:besideS σ key (l.getD j 0) j ≠ 0):(nd σ (besideS σ key (l.getD j 0) j)).kind ≠ 0:=by
 obtain ⟨h,x,tl,tr,L⟩:=level GG ht ho hj
 have hN:=GG.fit.next (σ0:=σ) rfl L.there L.kind L.depth L.pre L.left L.right
 rw [beside_level GG L] at h0 ⊢
 obtain ⟨z,z1,_⟩:=hN.resolve_left (fun h => h0 h.1)
 rw [nd_kind z1]
 by_cases h2:z.kind = 2
 · rw [h2]; decide
 have:=(GG.fit.leaf z1 h2).1
 rw [this]; decide
def CountAt (σ:SlabSt Nd) (key:List UInt8) (l:List Int) (A:Int) (m:Nat) (nk:Nat) (n:Int):Prop :=
 (∃ st:Int,((nk = 0 ∧ st = 0) ∨ (nk = 1 ∧ st ≠ 0)) ∧ n = 0 ∧ (lookL σ key l m st).2.1 + 1 = A) ∨ (nk = 2 ∧ n + m = A)
theorem CountAt.nk {key:List UInt8} {l:List Int} {A n:Int} {m nk:Nat} (h:CountAt σ key l A m nk n):nk = 0 ∨ nk = 1 ∨ nk = 2:=by
 rcases h with ⟨st,h | h,_⟩ | h <;> omega
theorem CountAt.end_ {key:List UInt8} {l:List Int} {A n:Int} {nk:Nat} (h:CountAt σ key l A 0 nk n):n = A:=by
 rcases h with ⟨st,_,h1,h2⟩ | ⟨_,h⟩
 · unfold lookL at h2
   simp at h2
   omega
 omega
theorem CountAt.zero {key:List UInt8} {l:List Int} {A n:Int} {m nk:Nat} (h:CountAt σ key l A (m + 1) nk n) (h0:besideS σ key (l.getD m 0) m = 0) (hk:nk ≠ 2):CountAt σ key l A m nk n:=by
 rcases h with ⟨st,h1,h2,h3⟩ | ⟨h,_⟩
 · unfold lookL at h3
   rw [if_pos h0] at h3
   exact .inl ⟨st,h1,h2,h3⟩
 exact absurd h hk
theorem CountAt.leaf {key:List UInt8} {l:List Int} {A n:Int} {m:Nat} (h:CountAt σ key l A (m + 1) 0 n) (h0:besideS σ key (l.getD m 0) m ≠ 0) (hk:(nd σ (besideS σ key (l.getD m 0) m)).kind = 1):CountAt σ key l A m 1 n:=by
 rcases h with ⟨st,h1,h2,h3⟩ | ⟨h,_⟩
 · have:st = 0:=by rcases h1 with ⟨_,h⟩ | ⟨h,_⟩ <;> omega
   subst this
   unfold lookL at h3
   rw [if_neg h0,if_neg (show ¬ ((0:Int) ≠ 0) from fun h => h rfl),if_pos hk] at h3
   exact .inl ⟨_,.inr ⟨rfl,h0⟩,h2,h3⟩
 omega
theorem CountAt.more {key:List UInt8} {l:List Int} {A n:Int} {m nk:Nat} (h:CountAt σ key l A (m + 1) nk n) (hc:nk = 2 ∨ (besideS σ key (l.getD m 0) m ≠ 0 ∧ (nk = 1 ∨ (nd σ (besideS σ key (l.getD m 0) m)).kind ≠ 1))):CountAt σ key l A m 2 (n + 1):=by
 rcases h with ⟨st,h1,h2,h3⟩ | ⟨_,h⟩
 · right
   refine ⟨rfl,?_⟩
   rcases hc with h | ⟨h0,hc⟩
   · rcases h1 with ⟨h',_⟩ | ⟨h',_⟩ <;> omega
   unfold lookL at h3
   rw [if_neg h0] at h3
   rcases h1 with ⟨hn,hs⟩ | ⟨hn,hs⟩
   · subst hs
     rw [if_neg (show ¬ ((0:Int) ≠ 0) from fun h => h rfl),if_neg (hc.resolve_left (by omega))] at h3
     simp only at h3
     omega
   rw [if_pos hs] at h3
   simp only at h3
   omega
 exact .inr ⟨rfl,by omega⟩
theorem DCost10_ok (h:ROw w0 w b σ G) (GG:Good σ) (root:Int) (key:List UInt8) (hk:key.length = 32) (hh:atHand σ root = 0)
 {l:List Int} {e1:Int} {t:Tr} (ht:Rep (sk σ) root 0 t) (ho:On (sk σ) key root 0 l e1) :
 Calls Tryz.prog 25 #[.pointer (some ⟨b,0,none⟩),.int .i64 root,.agg (brow key)] w fun e w' => e = .returned (.tuple #[.int .i64 (if thereS σ key e1 = true then (lookL σ key l l.length 0).2.1 + 1 else 0),.int .i64 0]) ∧ Adds w w':=by
 obtain ⟨K,hK⟩:∃ K,K = brow key:=⟨_,rfl⟩
 have hKs:K.size = 32:=by rw [hK,brow_size,hk]
 have a0:Adds w (w.alloc (.cells K 31)):=(Ch.refl (fun _ => False) w).alloc _
 have hw:=R9AtHand_ok (h.adds a0) GG root
 have hwy:=fun w1 (a:Adds w w1) => Way_ok (h.adds a) GG root key hk ho
 have hth:=fun w1 (a:Adds w w1) => Mine_ok (h.adds a) GG e1 key hk
 have hll:l.length ≤ 256:=by have:=ho.len GG.fit (by omega); omega
 have hbk:=fun (j:Nat) (hj:j < l.length) => beside_kind GG ht ho hj
 have hz:(nd σ 0).kind = 0:=nd_gone GG.fit.zero
 have hrk:=lookL_from σ key l l.length 0
 have hst:CountAt σ key l ((lookL σ key l l.length 0).2.1 + 1) l.length 0 0:=.inl ⟨0,.inl ⟨rfl,rfl⟩,rfl,rfl⟩
 rw [hh] at hw
 obtain ⟨th,hthe⟩:∃ x,x = thereS σ key e1:=⟨_,rfl⟩
 rw [← hthe, ← hK] at hth
 rw [← hthe, ← hK]
 rw [← hK] at hwy
 obtain ⟨A,hA⟩:∃ A,A = (lookL σ key l l.length 0).2.1 + 1:=⟨_,rfl⟩
 rw [← hA] at hst ⊢
 have HW:=Lib.hid hw
 have HY:=Lib.hid hwy
 have HT:=Lib.hid hth
 have HK:=(hIq hKs (aIq hK hk))
 have HO:=Lib.hid h
 have HG:=Lib.hid GG
 have HS:=Lib.hid hst
 have HBK:=(hIq hbk hz)
 have A0:=Lib.hid a0
 clear h a0 hw hh hwy hth hthe hK hKs ho ht GG hA hst hbk hz hrk
 go_enter Tryz.func25,Tryz.ntmps25
 go_wp2_with fail
 refine HW.out.mono ?_; rintro e w1 ⟨rfl,a1⟩
 have k1:=a1.row (heap_alloc_new w (.cells K 31)) id
 have A2:=(hIq (A0.out.trans a1 (fun _ => fEq)) k1)
 clear a1 k1
 go_wp2_with (first
  | fail
  | ((with_reducible show zOq (.load 31 _)); refine wpList_load_part rfl 31 _ rfl w.heap.size 0 rfl A2.out.2 Tryz.underlying31 rfl sizeP (by rw [HK.out.1]; omega) K (by simp [← HK.out.1]) ?_))
 refine (HY.out _ A2.out.1).mono ?_; rintro e w3 ⟨v3,rfl,o3,a3⟩
 obtain ⟨ao2,cap2,rfl⟩:=owns_form o3
 have A3:=(hIq (A2.out.1.trans a3 (fun _ => fEq)) (WayAt.adds ⟨a3.row A2.out.2 id,o3.base (fun _ _ => Nat.zero_le _)⟩ (Ch.refl (fun _ => False) w3)))
 have r3:=A3.out.2.1
 clear a3 o3
 go_wp2_with (first
  | fail
  | ((with_reducible show zOq (.load 31 _)); refine wpList_load_part rfl 31 _ rfl w.heap.size 0 rfl r3 Tryz.underlying31 rfl sizeP (by rw [HK.out.1]; omega) K (by simp [← HK.out.1]) ?_))
 refine (HT.out _ A3.out.1).mono ?_; rintro e w4 ⟨rfl,a4⟩
 have H4:=(hIq (A3.out.1.trans a4 (fun _ => fEq)) (A3.out.2.adds a4))
 clear a4 r3
 cases th with
 | false =>
  go_wp2
  go_ret2
  exact ⟨rfl,H4.out.1⟩
 | true =>
  go_wp2_with fail
  go_loopg [11,12,13,14] l.length (fun g s11 s12 s13 s14 wr => ∃ (nk:Nat) (n x:Int),s11 = .int .u8 nk ∧ s12 = .int .i64 n ∧ s13 = .int .i64 x ∧ x = (g:Int) - 1 ∧ g ≤ l.length ∧ 0 ≤ n ∧ n + g ≤ l.length ∧ CountAt σ key l A g nk n ∧ Adds w wr ∧ WayAt w.heap.size K ao2 cap2 l wr)
  case atStart => exact ⟨0,0,_,rfl,rfl,rfl,rfl,Nat.le_refl _,by omega,by omega,HS.out,H4.out⟩
  obtain ⟨nk,n,x,rfl,rfl,rfl,hx,hg,hn0,hng,hC,hA⟩:=hrel
  have HA:=Lib.hid hA
  have HC:=Lib.hid hC
  have hnk:=hC.nk
  clear hA hC
  rcases Nat.eq_zero_or_pos gk with h0 | h0
  · subst h0
    have hx1:decide ((0:Int) ≤ x) = false:=decide_eq_false (by omega)
    clear hx hn0 hng hnk
    go_wp2
    go_ret2
    refine ⟨?_,HA.out.1⟩
    rw [HC.out.end_]
    rfl
  obtain ⟨j,rfl⟩:∃ j,gk = j + 1:=⟨gk - 1,by omega⟩
  have hxe:x = (j:Int):=by omega
  subst hxe
  have hlt:j < l.length:=by omega
  have hlti:(j:Int) < (l.length:Int):=by omega
  obtain ⟨h1,hget⟩:∃ h1,l[j]? = some h1:=⟨_,List.getElem?_eq_getElem hlt⟩
  have hgd:l.getD j 0 = h1:=by simp [hget]
  obtain ⟨g0,hao⟩:∃ g0,ao2 = some ⟨g0,0,none⟩:=by
   obtain ⟨_,h | ⟨g0,cap',cur,h,_⟩⟩:=HA.out.2.2
   · exact absurd h.2 (by omega)
   injection h with h _ _
   exact ⟨g0,h⟩
  subst hao
  have hcell:∀ wz,WayAt w.heap.size K (some ⟨g0,0,none⟩) cap2 l wz → wz.cell? ⟨g0,j,none⟩ = some (.int .i64 h1):=fun wz hz => by
   rw [hz.2.cellAt j (by omega)]
   unfold Store.hl
   rw [List.getElem?_map,hget]
   rfl
  have hot:=fun w1 (a:Adds w w1) => Other9_ok (HO.out.adds a) HG.out h1 j key HK.out.2.2
  rw [← HK.out.2.1] at hot
  have hkd:=fun w1 (a:Adds w w1) => (HO.out.adds a).kind HG.out (besideS σ key h1 j)
  have hb:=HBK.out.1 j hlt
  rw [hgd] at hb
  have hcz:=@CountAt.zero σ key l A n j nk HC.out
  have hcl:nk = 0 → _:=fun (e:nk = 0) => @CountAt.leaf σ key l A n j (e ▸ HC.out)
  have hcm:=@CountAt.more σ key l A n j nk HC.out
  rw [hgd] at hcz hcl hcm
  obtain ⟨o,hoe⟩:∃ o,o = besideS σ key h1 j:=⟨_,rfl⟩
  rw [← hoe] at hot hkd hb hcz hcl hcm
  obtain ⟨kd,hke⟩:∃ kd,kd = (nd σ o).kind:=⟨_,rfl⟩
  rw [← hke] at hkd hb hcl hcm
  have hz0:o = 0 → kd = 0:=fun e => by rw [hke,e]; exact HBK.out.2
  have HOT:=Lib.hid hot
  have HKD:=Lib.hid hkd
  have HCL:=Lib.hid hcell
  have HCC:=(hIq hcz (aIq hcl hcm))
  have HB:=(hIq hb hz0)
  have hjl:(j:Int) ≤ 256:=by omega
  have hn256:n + 1 ≤ 256:=by omega
  clear hot hkd hb hcz hcl hcm hoe hke hcell hget hgd hx h0 hz0
  go_wp2
  refine wp_region_plan (fun wz => Adds w wz ∧ WayAt w.heap.size K (some ⟨g0,0,none⟩) cap2 l wz) 11 [(0,false),(1,false),(2,false),(3,false),(4,false),(5,false),(6,false),(7,false),(8,true),(9,true),(10,false)] (by kernel_rfl) (by kernel_rfl) ?_ ?_
  · exact ⟨HA.out.1.drew,HA.out.2.adds (Ch.refl _ _).drew⟩
  iterate 2
   iterate 1 refine plan_look rfl rfl (fun w0 hS => (by go_simp; try rfl)) ?_
   simp only [Act.put,nAq,nBq,nCq]
  refine plan_load_part (cur:=K) (t:=31) (fr:=(0,0)) rfl rfl 31 (.tmp 5) rfl w.heap.size 0 32 rfl (fun w0 hS => hS.2.1) Tryz.underlying31 rfl sizeP (by rw [HK.out.1]; omega) K (by simp [← HK.out.1]) ?_
  simp only [Act.put,nAq,nBq,nCq]
  iterate 4
   refine plan_look rfl rfl (fun w0 hS => (by clear hS; go_simp; try rfl)) ?_
   simp only [Act.put,nAq,nBq,nCq]
  refine plan_look (v:=.int .i64 h1) rfl rfl (fun w0 hS => (by have c1:=HCL.out w0 hS.2; clear hS; go_simp; try rfl)) ?_
  simp only [Act.put,nAq,nBq,nCq]
  refine plan_do rfl ?_
  go_wp2_with fail
  refine (HOT.out _ HA.out.1.drew).mono ?_; rintro e w5 ⟨rfl,a5⟩
  have H5:=(hIq (HA.out.1.drew.trans a5 (fun _ => fEq)) (HA.out.2.adds ((Ch.refl (fun _ => False) wr).drew.trans a5 (fun _ => fEq))))
  clear a5
  dsimp only
  go_step
  refine wpList_nil ?_
  change _ ∧ _
  refine ⟨H5.out,?_⟩
  refine plan_do rfl ?_
  go_wp2_with fail
  refine (HKD.out _ H5.out.1).mono ?_; rintro e w6 ⟨rfl,a6⟩
  have H6:=(hIq (H5.out.1.trans a6 (fun _ => fEq)) (H5.out.2.adds a6))
  clear a6
  dsimp only
  go_step
  refine wpList_nil ?_
  change _ ∧ _
  refine ⟨H6.out,?_⟩
  refine plan_look rfl rfl (fun w0 hS => (by clear hS; go_simp; try rfl)) ?_
  simp only [Act.put,nAq,nBq,nCq]
  refine plan_end ?_; simp only [List.drop_succ_cons,List.drop_zero]
  go_wp2
  refine NoPanic.normal ?_
  have e2u:IntKind.i64.wrap (n + 1) = n + 1:=IntWalk.i64_in _ (by omega)
  have a1:(((0:Nat):Int) == 0) = true:=rfl
  have a2:(((0:Nat):Int) != 2) = true:=rfl
  have a3:(((1:Nat):Int) == 0) = false:=rfl
  have a4:(((1:Nat):Int) != 2) = true:=rfl
  have a5:(((2:Nat):Int) == 0) = false:=rfl
  have a6:(((2:Nat):Int) != 2) = false:=rfl
  have a7:(((1:Nat):Int) == 1) = true:=rfl
  have hng2:n + (j:Int) + 1 ≤ l.length:=by omega
  by_cases hk0:kd = 0
  · have ho0:o = 0:=by
     by_cases h:o = 0
     · exact h
     exact absurd hk0 (HB.out.1 h)
    have HO0:=Lib.hid ho0
    subst hk0
    clear ho0
    rcases hnk with rfl | rfl | rfl
    · go_wp2
      go_roundg j
      case measure => omega
      exact ⟨0,_,_,rfl,rfl,rfl,by omega,by omega,by omega,by omega,HCC.out.1 HO0.out (by decide),H6.out.1,H6.out.2⟩
    · go_wp2
      go_roundg j
      case measure => omega
      exact ⟨1,_,_,rfl,rfl,rfl,by omega,by omega,by omega,by omega,HCC.out.1 HO0.out (by decide),H6.out.1,H6.out.2⟩
    go_wp2
    go_roundg j
    case measure => omega
    exact ⟨2,_,_,rfl,rfl,rfl,by omega,by omega,by omega,by omega,HCC.out.2.2 (.inl (by trivial)),H6.out.1,H6.out.2⟩
  have ho0:o ≠ 0:=fun h => hk0 (HB.out.2 h)
  have HO0:=Lib.hid ho0
  have b1:((kd:Int) == 0) = false:=by simpa using (show ¬ (kd:Int) = 0 by omega)
  clear ho0
  rcases hnk with rfl | rfl | rfl
  · by_cases hk1:kd = 1
    · subst hk1
      go_wp2
      go_roundg j
      case measure => omega
      exact ⟨1,_,_,rfl,rfl,rfl,by omega,by omega,by omega,by omega,HCC.out.2.1 (by trivial) HO0.out (by trivial),H6.out.1,H6.out.2⟩
    have b2:((kd:Int) == 1) = false:=by simpa using (show ¬ (kd:Int) = 1 by omega)
    have HK1:=Lib.hid hk1
    clear hk1
    go_wp2
    go_roundg j
    case measure => omega
    exact ⟨2,_,_,rfl,rfl,rfl,by omega,by omega,by omega,by omega,HCC.out.2.2 (.inr ⟨HO0.out,.inr HK1.out⟩),H6.out.1,H6.out.2⟩
  · go_wp2
    go_roundg j
    case measure => omega
    exact ⟨2,_,_,rfl,rfl,rfl,by omega,by omega,by omega,by omega,HCC.out.2.2 (.inr ⟨HO0.out,.inl (by trivial)⟩),H6.out.1,H6.out.2⟩
  go_wp2
  go_roundg j
  case measure => omega
  exact ⟨2,_,_,rfl,rfl,rfl,by omega,by omega,by omega,by omega,HCC.out.2.2 (.inl (by trivial)),H6.out.1,H6.out.2⟩
end
section
variable {w0 w w' : World} {s b : Nat} {σ : SlabSt Nd} {F G : Nat → Prop}
theorem Cost_long (h:At w s F σ) (root:Int) (K:Array Value) (ao:Option Addr) (len cap:Nat) (hl:1024 < len) :
 Calls Tryz.prog 78 #[.pointer (some ⟨s,0,none⟩),.int .i64 root,.agg K,.slice ao len cap] w fun e w' => e = .returned (.tuple #[.int .i64 0,.int .i64 4]) ∧ Adds w w':=by
 have hr:=Room_ok (h.adds ((Ch.refl (fun _ => False) w).alloc (.cells K 31)))
 have hp:=room_pos h
 have HR:=Lib.hid hr
 clear hr h
 go_enter Tryz.func78,Tryz.ntmps78
 go_wp2_with fail
 refine HR.out.mono ?_; rintro e w1 ⟨rfl,rfl⟩
 go_wp2
 go_ret2
 exact ⟨rfl,(Ch.refl _ _).alloc _⟩
theorem Cost_hand (h:At w s F σ) (root:Int) (K:Array Value) (ao:Option Addr) (len cap:Nat) (hl:len ≤ 1024) (hh:atHand σ root ≠ 0) :
 Calls Tryz.prog 78 #[.pointer (some ⟨s,0,none⟩),.int .i64 root,.agg K,.slice ao len cap] w fun e w' => e = .returned (.tuple #[.int .i64 0,.int .i64 (atHand σ root)]) ∧ Adds w w':=by
 have a0:Adds w (w.alloc (.cells K 31)):=(Ch.refl (fun _ => False) w).alloc _
 have hr:=Room_ok (h.adds a0)
 have ha:=AtHand_ok (h.adds a0) root
 have hp:=room_pos h
 obtain ⟨er,her⟩:∃ x,x = atHand σ root:=⟨_,rfl⟩
 rw [← her] at ha hh ⊢
 have HR:=Lib.hid hr
 have HA:=Lib.hid ha
 have A0:=Lib.hid a0
 clear hr h ha her a0
 go_enter Tryz.func78,Tryz.ntmps78
 go_wp2_with fail
 refine HR.out.mono ?_; rintro e w1 ⟨rfl,rfl⟩
 go_wp2_with fail
 refine HA.out.mono ?_; rintro e w1 ⟨rfl,a1⟩
 go_wp2
 go_ret2
 exact ⟨rfl,A0.out.trans a1 (fun _ => fEq)⟩
theorem Cost9_long (h:ROw w0 w b σ G) (root:Int) (K:Array Value) (ao:Option Addr) (len cap:Nat) (hl:1024 < len) :
 Calls Tryz.prog 79 #[.pointer (some ⟨b,0,none⟩),.int .i64 root,.agg K,.slice ao len cap] w fun e w' => e = .returned (.tuple #[.int .i64 0,.int .i64 4]) ∧ Adds w w':=by
 have a0:Adds w (w.alloc (.cells K 31)):=(Ch.refl (fun _ => False) w).alloc _
 have HW:=Lib.hid (wrong9_long (h.adds a0) root ao len cap hl)
 have A0:=Lib.hid a0
 clear h a0 hl
 go_enter Tryz.func79,Tryz.ntmps79
 go_wp2_with fail
 refine HW.out.mono ?_; rintro e w1 ⟨rfl,a1⟩
 go_wp2
 go_ret2
 exact ⟨rfl,A0.out.trans a1 (fun _ => fEq)⟩
theorem Cost9_hand (h:ROw w0 w b σ G) (GG:Good σ) (root:Int) (K:Array Value) (ao:Option Addr) (len cap:Nat) (hl:len ≤ 1024) (hh:atHand σ root ≠ 0) :
 Calls Tryz.prog 79 #[.pointer (some ⟨b,0,none⟩),.int .i64 root,.agg K,.slice ao len cap] w fun e w' => e = .returned (.tuple #[.int .i64 0,.int .i64 (atHand σ root)]) ∧ Adds w w':=by
 have a0:Adds w (w.alloc (.cells K 31)):=(Ch.refl (fun _ => False) w).alloc _
 have hw:=wrong9_hand (h.adds a0) GG root ao len cap hl
 obtain ⟨er,her⟩:∃ x,x = atHand σ root:=⟨_,rfl⟩
 rw [← her] at hw hh ⊢
 have hn:(er != 0) = true:=by simpa using hh
 have HW:=Lib.hid hw
 have A0:=Lib.hid a0
 clear h a0 hl hw her
 go_enter Tryz.func79,Tryz.ntmps79
 go_wp2_with fail
 refine HW.out.mono ?_; rintro e w1 ⟨rfl,a1⟩
 go_wp2
 go_ret2
 exact ⟨rfl,A0.out.trans a1 (fun _ => fEq)⟩
theorem Cost9_ok (h:ROw w0 w b σ G) (GG:Good σ) (root:Int) (key:List UInt8) (hk:key.length = 32) {vv:Value} {bs:List UInt8} (hb:Bytes w vv bs) (hl:bs.length ≤ 1024) (hh:atHand σ root = 0)
 {l:List Int} {e1:Int} (ho:On (sk σ) key root 0 l e1) :
 Calls Tryz.prog 79 #[.pointer (some ⟨b,0,none⟩),.int .i64 root,.agg (brow key),vv] w fun e w' => e = .returned (.tuple #[.int .i64 (if sameS σ key bs e1 = true then 0 else (putCost σ key l e1:Nat)),.int .i64 0]) ∧ Adds w w':=by
 obtain ⟨ao,cap,hvv,_⟩:=hb.form
 obtain ⟨K,hK⟩:∃ K,K = brow key:=⟨_,rfl⟩
 have hKs:K.size = 32:=by rw [hK,brow_size,hk]
 have a0:Adds w (w.alloc (.cells K 31)):=(Ch.refl (fun _ => False) w).alloc _
 have hw:=wrong9_hand (h.adds a0) GG root ao bs.length cap hl
 have hwy:=fun w1 (a:Adds w w1) => Way_ok (h.adds a) GG root key hk ho
 have hth:=fun w1 (a:Adds w w1) => there_ok (h.adds a) GG e1 key hk (hb.keep a (fun _ _ h => h))
 have hkd:=fun w1 (a:Adds w w1) => (h.adds a).kind GG e1
 have hky:=fun w1 (a:Adds w w1) (hk1:(nd σ e1).kind = 1) => (h.adds a).keyLeaf GG hk1
 have hll:l.length ≤ 256:=by have:=ho.len GG.fit (by omega); omega
 have hoc:=fun (hot:otherS σ key e1 = true) => other_common GG hk ho hot
 have hkl0:(nd σ e1).kind = 1 → (nd σ e1).key.length = 32:=fun hk1 => by
  cases hx:σ.get? e1 with
  | none => rw [nd_none hx] at hk1; exact absurd (show (0:Nat) = 1 from hk1) (by decide)
  | some x => rw [nd_some hx]; exact (GG.fit.all _ _ (sk_some hx)).key
 rw [hh] at hw
 obtain ⟨sm,hsm⟩:∃ x,x = sameS σ key bs e1:=⟨_,rfl⟩
 rw [← hsm, ← hK] at hth
 rw [← hsm]
 rw [← hK] at hwy
 rw [← hK]
 subst hvv
 have HW:=Lib.hid hw
 have HY:=Lib.hid hwy
 have HT:=Lib.hid hth
 have HK:=Lib.hid hKs
 have HKK:=Lib.hid hK
 have A0:=Lib.hid a0
 clear h a0 hl hw hh hwy hth hK hKs ho hb hsm GG
 go_enter Tryz.func79,Tryz.ntmps79
 go_wp2_with fail
 refine HW.out.mono ?_; rintro e w1 ⟨rfl,a1⟩
 have k1:=a1.row (heap_alloc_new w (.cells K 31)) id
 have A2:=(hIq (A0.out.trans a1 (fun _ => fEq)) k1)
 clear a1 k1
 go_wp2_with (first
  | fail
  | ((with_reducible show zOq (.load 31 _)); refine wpList_load_part rfl 31 _ rfl w.heap.size 0 rfl A2.out.2 Tryz.underlying31 rfl sizeP (by rw [HK.out]; omega) K (by simp [← HK.out]) ?_))
 refine (HY.out _ A2.out.1).mono ?_; rintro e w3 ⟨v,rfl,o3,a3⟩
 obtain ⟨ao3,cap3,rfl⟩:=owns_form o3
 have A3:=(hIq (A2.out.1.trans a3 (fun _ => fEq)) (a3.row A2.out.2 id))
 clear a3 o3
 go_wp2_with (first
  | fail
  | ((with_reducible show zOq (.load 31 _)); refine wpList_load_part rfl 31 _ rfl w.heap.size 0 rfl A3.out.2 Tryz.underlying31 rfl sizeP (by rw [HK.out]; omega) K (by simp [← HK.out]) ?_))
 refine (HT.out _ A3.out.1).mono ?_; rintro e w4 ⟨rfl,a4⟩
 have A4:=(hIq (A3.out.1.trans a4 (fun _ => fEq)) (a4.row A3.out.2 id))
 clear a4
 cases sm with
 | true =>
  go_wp2
  go_ret2
  exact ⟨rfl,A4.out.1⟩
 | false =>
  have hw1:IntKind.i64.wrap (1 + (l.length:Int)) = 1 + (l.length:Int):=IntWalk.i64_in _ (by omega)
  by_cases hk1:(nd σ e1).kind = 1
  · have hkl:=hkl0 hk1
    have hneq:=neq_keys 31 Tryz.underlying31 (nd σ e1).key key hkl hk
    have hcm:=fun w1 => RCommon_ok key (nd σ e1).key hk hkl w1
    have hky:=fun w1 a => hky w1 a hk1
    rw [hk1] at hkd
    obtain ⟨K2,hK2⟩:∃ K2,K2 = brow (nd σ e1).key:=⟨_,rfl⟩
    rw [← hK2, ← HKK.out] at hneq hcm
    rw [← hK2] at hky
    have HKD:=Lib.hid hkd
    have HKY:=Lib.hid hky
    have hot:otherS σ key e1 = !decide ((nd σ e1).key = key):=by unfold otherS; rw [hk1]; simp
    have e1':(((1:Nat):Int) == 1) = true:=rfl
    obtain ⟨ek,hek⟩:∃ x,x = decide ((nd σ e1).key = key):=⟨_,rfl⟩
    rw [← hek] at hneq hot
    have HQ:=Lib.hid hneq
    cases ek with
    | true =>
     have HCO:=Lib.hid (putCost_no (l:=l) hot)
     clear hot hek hneq hcm hky hkd hkl hk1 hK2 hoc hkl0
     go_wp2
     refine wp_region_plan (fun wz => wz.heap[w.heap.size]? = some (.cells K 31 (0,0)) ∧ Adds w wz) 11 [(0,false),(1,false),(2,true),(3,false),(4,false),(5,false),(6,false),(8,false),(7,true),(9,false),(10,false)] (by kernel_rfl) (by kernel_rfl) ?_ ?_
     · exact ⟨row_drew A4.out.2,A4.out.1.drew⟩
     iterate 2
      iterate 1 refine plan_look rfl rfl (fun w0 hS => (by go_simp; try rfl)) ?_
      simp only [Act.put,nAq,nBq,nCq]
     refine plan_do rfl ?_
     go_wp2_with fail
     refine (HKD.out _ A4.out.1.drew).mono ?_; rintro e w6 ⟨rfl,a6⟩
     have H6:=(hIq (a6.row (row_drew A4.out.2) id) (A4.out.1.drew.trans a6 (fun _ => fEq)))
     clear a6
     dsimp only
     go_step
     refine wpList_nil ?_
     change _ ∧ _
     refine ⟨H6.out,?_⟩
     iterate 4
      refine plan_look rfl rfl (fun w0 hS => (by clear hS; go_simp; try rfl)) ?_
      simp only [Act.put,nAq,nBq,nCq]
     refine plan_gload_part (cur:=K) (t:=31) (fr:=(0,0)) rfl rfl 31 (.tmp 6) rfl w.heap.size 0 32 rfl (fun w0 hS => hS.1) Tryz.underlying31 rfl sizeP (by rw [HK.out]; omega) K (by simp [← HK.out]) ?_
     simp only [Act.put,nAq,nBq,nCq]
     refine plan_do rfl ?_
     go_wp2_with fail
     refine (HKY.out _ H6.out.2).mono ?_; rintro e w7 ⟨rfl,a7⟩
     have H7:=(hIq (a7.row H6.out.1 id) (H6.out.2.trans a7 (fun _ => fEq)))
     clear a7 H6
     dsimp only
     go_step
     refine wpList_nil ?_
     change _ ∧ _
     refine ⟨H7.out,?_⟩
     refine plan_look (v:=.bool false) rfl rfl (fun w0 hS => (by have hq:=HQ.out w0; rw [run_neq_struct] at hq; clear hS; go_simp)) ?_
     simp only [Act.put,nAq,nBq,nCq]
     refine plan_look (v:=.bool false) rfl rfl (fun w0 hS => (by clear hS; go_simp; try rfl)) ?_
     simp only [Act.put,nAq,nBq,nCq]
     refine plan_end ?_; simp only [List.drop_succ_cons,List.drop_zero]
     go_wp2
     refine NoPanic.normal ?_
     go_wp2
     go_ret2
     refine ⟨?_,H7.out.2⟩
     rw [HCO.out]
     push_cast
     rw [Int.add_comm]
     rfl
    | false =>
     obtain ⟨hcl,hc256,_⟩:=hoc hot
     have hco:=putCost_yes hot hcl
     obtain ⟨c,hc⟩:∃ x,x = common key (nd σ e1).key:=⟨_,rfl⟩
     rw [← hc] at hcl hc256 hcm hco
     have HC:=Lib.hid hcm
     have HCO:=Lib.hid hco
     obtain ⟨n,hn⟩:∃ n,n = l.length:=⟨_,rfl⟩
     rw [← hn] at hw1 hll hcl ⊢
     have hw2:IntKind.i64.wrap (1 + (n:Int) + (c:Int)) = 1 + (n:Int) + (c:Int):=IntWalk.i64_in _ (by omega)
     have hw3:IntKind.i64.wrap (1 + (n:Int) + (c:Int) - (n:Int)) = (c:Int) + 1:=by rw [show 1 + (n:Int) + (c:Int) - (n:Int) = (c:Int) + 1 by omega]; exact IntWalk.i64_in _ (by omega)
     have hw4:IntKind.i64.wrap ((c:Int) + 1 + 1) = (c:Int) + 2:=by rw [show (c:Int) + 1 + 1 = (c:Int) + 2 by omega]; exact IntWalk.i64_in _ (by omega)
     clear hot hek hneq hcm hky hkd hkl hk1 hK2 hoc hkl0 hco hc hcl hn
     go_wp2
     refine wp_region_plan (fun wz => wz.heap[w.heap.size]? = some (.cells K 31 (0,0)) ∧ Adds w wz) 11 [(0,false),(1,false),(2,true),(3,false),(4,false),(5,false),(6,false),(8,false),(7,true),(9,false),(10,false)] (by kernel_rfl) (by kernel_rfl) ?_ ?_
     · exact ⟨row_drew A4.out.2,A4.out.1.drew⟩
     iterate 2
      iterate 1 refine plan_look rfl rfl (fun w0 hS => (by go_simp; try rfl)) ?_
      simp only [Act.put,nAq,nBq,nCq]
     refine plan_do rfl ?_
     go_wp2_with fail
     refine (HKD.out _ A4.out.1.drew).mono ?_; rintro e w6 ⟨rfl,a6⟩
     have H6:=(hIq (a6.row (row_drew A4.out.2) id) (A4.out.1.drew.trans a6 (fun _ => fEq)))
     clear a6
     dsimp only
     go_step
     refine wpList_nil ?_
     change _ ∧ _
     refine ⟨H6.out,?_⟩
     iterate 4
      refine plan_look rfl rfl (fun w0 hS => (by clear hS; go_simp; try rfl)) ?_
      simp only [Act.put,nAq,nBq,nCq]
     refine plan_gload_part (cur:=K) (t:=31) (fr:=(0,0)) rfl rfl 31 (.tmp 6) rfl w.heap.size 0 32 rfl (fun w0 hS => hS.1) Tryz.underlying31 rfl sizeP (by rw [HK.out]; omega) K (by simp [← HK.out]) ?_
     simp only [Act.put,nAq,nBq,nCq]
     refine plan_do rfl ?_
     go_wp2_with fail
     refine (HKY.out _ H6.out.2).mono ?_; rintro e w7 ⟨rfl,a7⟩
     have H7:=(hIq (a7.row H6.out.1 id) (H6.out.2.trans a7 (fun _ => fEq)))
     clear a7 H6
     dsimp only
     go_step
     refine wpList_nil ?_
     change _ ∧ _
     refine ⟨H7.out,?_⟩
     refine plan_look (v:=.bool true) rfl rfl (fun w0 hS => (by have hq:=HQ.out w0; rw [run_neq_struct] at hq; clear hS; go_simp)) ?_
     simp only [Act.put,nAq,nBq,nCq]
     refine plan_look (v:=.bool true) rfl rfl (fun w0 hS => (by clear hS; go_simp; try rfl)) ?_
     simp only [Act.put,nAq,nBq,nCq]
     refine plan_end ?_; simp only [List.drop_succ_cons,List.drop_zero]
     go_wp2
     refine NoPanic.normal ?_
     go_wp2
     refine wp_region_plan (fun wz => wz.heap[w.heap.size]? = some (.cells K 31 (0,0)) ∧ Adds w wz) 11 [(0,false),(1,false),(2,false),(3,false),(7,false),(8,false),(4,true),(5,true),(6,false),(9,false),(10,false)] (by kernel_rfl) (by kernel_rfl) ?_ ?_
     · exact ⟨row_drew H7.out.1,H7.out.2.drew⟩
     refine plan_look rfl rfl (fun w0 hS => (by clear hS; go_simp; try rfl)) ?_
     simp only [Act.put,nAq,nBq,nCq]
     refine plan_load_part (cur:=K) (t:=31) (fr:=(0,0)) rfl rfl 31 (.tmp 6) rfl w.heap.size 0 32 rfl (fun w0 hS => hS.1) Tryz.underlying31 rfl sizeP (by rw [HK.out]; omega) K (by simp [← HK.out]) ?_
     simp only [Act.put,nAq,nBq,nCq]
     iterate 4
      refine plan_look rfl rfl (fun w0 hS => (by clear hS; go_simp; try rfl)) ?_
      simp only [Act.put,nAq,nBq,nCq]
     refine plan_do rfl ?_
     go_wp2_with fail
     refine (HKY.out _ H7.out.2.drew).mono ?_; rintro e w8 ⟨rfl,a8⟩
     have H8:=(hIq (a8.row (row_drew H7.out.1) id) (H7.out.2.drew.trans a8 (fun _ => fEq)))
     clear a8
     dsimp only
     go_step
     refine wpList_nil ?_
     change _ ∧ _
     refine ⟨H8.out,?_⟩
     refine plan_do rfl ?_
     go_wp2_with fail
     refine (HC.out _).mono ?_; rintro e w9 ⟨rfl,a9⟩
     have H9:=(hIq (a9.row H8.out.1 id) (H8.out.2.trans a9 (fun _ => fEq)))
     clear a9
     dsimp only
     go_step
     refine wpList_nil ?_
     change _ ∧ _
     refine ⟨H9.out,?_⟩
     refine plan_look (v:=.int .i64 (1 + (n:Int) + (c:Int))) rfl rfl (fun w0 hS => (by clear hS; go_simp; try simp [hw2])) ?_
     simp only [Act.put,nAq,nBq,nCq]
     refine plan_look (v:=.int .i64 ((c:Int) + 1)) rfl rfl (fun w0 hS => (by clear hS; go_simp; try simp [hw3])) ?_
     simp only [Act.put,nAq,nBq,nCq]
     refine plan_look (v:=.int .i64 ((c:Int) + 2)) rfl rfl (fun w0 hS => (by clear hS; go_simp; try simp [hw4])) ?_
     simp only [Act.put,nAq,nBq,nCq]
     refine plan_end ?_; simp only [List.drop_succ_cons,List.drop_zero]
     go_wp2
     refine NoPanic.normal ?_
     go_wp2
     go_ret2
     refine ⟨?_,H9.out.2⟩
     rw [HCO.out]
     rfl
  have hot:otherS σ key e1 = false:=by
   unfold otherS
   rw [decide_eq_false hk1,Bool.false_and]
  have HCO:=Lib.hid (putCost_no (l:=l) hot)
  obtain ⟨kd,hkd'⟩:∃ x,x = (nd σ e1).kind:=⟨_,rfl⟩
  rw [← hkd'] at hkd hk1
  have HKD:=Lib.hid hkd
  have e1':((kd:Int) == 1) = false:=by simpa using (show ¬ (kd:Int) = 1 by omega)
  have e2':decide ((kd:Int) = 1) = false:=decide_eq_false (by omega)
  clear hot hkd hk1 hkd' hoc hkl0 hky
  go_wp2
  refine wp_region_plan (fun wz => wz.heap[w.heap.size]? = some (.cells K 31 (0,0)) ∧ Adds w wz) 11 [(0,false),(1,false),(2,true),(3,false),(4,false),(5,false),(6,false),(7,false),(8,false),(9,false),(10,false)] (by kernel_rfl) (by kernel_rfl) ?_ ?_
  · exact ⟨row_drew A4.out.2,A4.out.1.drew⟩
  iterate 2
   iterate 1 refine plan_look rfl rfl (fun w0 hS => (by go_simp; try rfl)) ?_
   simp only [Act.put,nAq,nBq,nCq]
  refine plan_do rfl ?_
  go_wp2_with fail
  refine (HKD.out _ A4.out.1.drew).mono ?_; rintro e w6 ⟨rfl,a6⟩
  have H6:=(hIq (a6.row (row_drew A4.out.2) id) (A4.out.1.drew.trans a6 (fun _ => fEq)))
  clear a6
  dsimp only
  go_step
  refine wpList_nil ?_
  change _ ∧ _
  refine ⟨H6.out,?_⟩
  iterate 2
   refine plan_look (v:=.bool false) rfl rfl (fun w0 hS => (by clear hS; go_simp; try rfl)) ?_
   simp only [Act.put,nAq,nBq,nCq]
  iterate 5
   refine plan_skip rfl (by rfl) ?_
   simp only [Act.put,nAq,nBq,nCq]
  refine plan_look (v:=.bool false) rfl rfl (fun w0 hS => (by clear hS; go_simp; try rfl)) ?_
  simp only [Act.put,nAq,nBq,nCq]
  refine plan_end ?_; simp only [List.drop_succ_cons,List.drop_zero]
  go_wp2
  refine NoPanic.normal ?_
  go_wp2
  go_ret2
  refine ⟨?_,H6.out.2⟩
  rw [HCO.out]
  push_cast
  rw [Int.add_comm]
  rfl
end
end Go.Proofs.YtmeglndnkdgkoaaGreat.Store

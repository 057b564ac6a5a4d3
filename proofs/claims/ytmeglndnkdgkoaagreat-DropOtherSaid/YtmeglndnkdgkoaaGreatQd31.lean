/- Proved contracts and plain laws of the layers below, in one text. -/
import Derived.Test.YtmeglndnkdgkoaaGreatQd30
set_option maxHeartbeats 3200000
set_option maxRecDepth 100000
set_option linter.unusedVariables false
namespace Go.Proofs.YtmeglndnkdgkoaaGreat.Store
open Go Go.RowKit Go.Proofs.YtmeglndnkdgkoaaGreat Go.Proofs.YtmeglndnkdgkoaaGreat.ShaW Go.Proofs.YtmeglndnkdgkoaaGreat.Path
section
variable {w0 w w' : World} {b : Nat} {σ : SlabSt Nd} {F G : Nat → Prop}
theorem Put9_long (h:ROw w0 w b σ G) (root:Int) (K:Array Value) (ao:Option Addr) (len cap:Nat) (hl:1024 < len) :
 Calls Tryz.prog 81 #[.pointer (some ⟨b,0,none⟩),.int .i64 root,.agg K,.slice ao len cap] w fun e w' => e = .returned (.tuple #[.int .i64 0,.int .i64 4]) ∧ Adds w w':=by
 have a0:Adds w (w.alloc (.cells K 31)):=(Ch.refl (fun _ => False) w).alloc _
 have HW:=Lib.hid (wrong9_long (h.adds a0) root ao len cap hl)
 have A0:=Lib.hid a0
 clear h a0 hl
 go_enter Tryz.func81,Tryz.ntmps81
 go_wp2_with fail
 refine HW.out.mono ?_; rintro e w1 ⟨rfl,a1⟩
 go_wp2
 go_ret2
 exact ⟨rfl,A0.out.trans a1 (fun _ => fEq)⟩
theorem Put9_hand (h:ROw w0 w b σ G) (GG:Good σ) (root:Int) (K:Array Value) (ao:Option Addr) (len cap:Nat) (hl:len ≤ 1024) (hh:atHand σ root ≠ 0) :
 Calls Tryz.prog 81 #[.pointer (some ⟨b,0,none⟩),.int .i64 root,.agg K,.slice ao len cap] w fun e w' => e = .returned (.tuple #[.int .i64 0,.int .i64 (atHand σ root)]) ∧ Adds w w':=by
 have a0:Adds w (w.alloc (.cells K 31)):=(Ch.refl (fun _ => False) w).alloc _
 have hw:=wrong9_hand (h.adds a0) GG root ao len cap hl
 obtain ⟨er,her⟩:∃ x,x = atHand σ root:=⟨_,rfl⟩
 rw [← her] at hw hh ⊢
 have hn:(er != 0) = true:=by simpa using hh
 have HW:=Lib.hid hw
 have A0:=Lib.hid a0
 clear h a0 hl hw her
 go_enter Tryz.func81,Tryz.ntmps81
 go_wp2_with fail
 refine HW.out.mono ?_; rintro e w1 ⟨rfl,a1⟩
 go_wp2
 go_ret2
 exact ⟨rfl,A0.out.trans a1 (fun _ => fEq)⟩
theorem Put9_full (h:ROw w0 w b σ G) (GG:Good σ) (root:Int) (K:Array Value) (ao:Option Addr) (len cap:Nat) (hl:len ≤ 1024) (hh:atHand σ root = 0) (hf:fitsJ σ 1 = false) :
 Calls Tryz.prog 81 #[.pointer (some ⟨b,0,none⟩),.int .i64 root,.agg K,.slice ao len cap] w fun e w' => e = .returned (.tuple #[.int .i64 0,.int .i64 9]) ∧ Adds w w':=by
 have a0:Adds w (w.alloc (.cells K 31)):=(Ch.refl (fun _ => False) w).alloc _
 have hw:=wrong9_hand (h.adds a0) GG root ao len cap hl
 have hft:=fun w1 (a:Adds w w1) => R9Fits_ok (h.adds a) GG 1
 rw [hh] at hw
 rw [hf] at hft
 have HW:=Lib.hid hw
 have HF:=Lib.hid hft
 have A0:=Lib.hid a0
 clear h a0 hl hw hh hft hf
 go_enter Tryz.func81,Tryz.ntmps81
 go_wp2_with fail
 refine HW.out.mono ?_; rintro e w1 ⟨rfl,a1⟩
 have A1:=Lib.hid (A0.out.trans a1 (fun _ => fEq))
 clear a1
 go_wp2_with fail
 refine (HF.out _ A1.out).mono ?_; rintro e w2 ⟨rfl,a2⟩
 go_wp2
 go_ret2
 exact ⟨rfl,A1.out.trans a2 (fun _ => fEq)⟩
theorem Put9_same (h:ROw w0 w b σ G) (GG:Good σ) (root:Int) (key:List UInt8) (hk:key.length = 32) {vv:Value} {bs:List UInt8} (hb:Bytes w vv bs) (hl:bs.length ≤ 1024) (hh:atHand σ root = 0) (hf:fitsJ σ 1 = true)
 {l:List Int} {e1:Int} (ho:On (sk σ) key root 0 l e1) (hs:sameS σ key bs e1 = true) :
 Calls Tryz.prog 81 #[.pointer (some ⟨b,0,none⟩),.int .i64 root,.agg (brow key),vv] w fun e w' => e = .returned (.tuple #[.int .i64 root,.int .i64 0]) ∧ Adds w w':=by
 obtain ⟨ao,cap,hvv,_⟩:=hb.form
 obtain ⟨K,hK⟩:∃ K,K = brow key:=⟨_,rfl⟩
 have hKs:K.size = 32:=by rw [hK,brow_size,hk]
 have a0:Adds w (w.alloc (.cells K 31)):=(Ch.refl (fun _ => False) w).alloc _
 have hw:=wrong9_hand (h.adds a0) GG root ao bs.length cap hl
 have hft:=fun w1 (a:Adds w w1) => R9Fits_ok (h.adds a) GG 1
 have hwy:=fun w1 (a:Adds w w1) => Way_ok (h.adds a) GG root key hk ho
 have hth:=fun w1 (a:Adds w w1) => there_ok (h.adds a) GG e1 key hk (hb.keep a (fun _ _ h => h))
 rw [hh] at hw
 rw [hf] at hft
 rw [hs, ← hK] at hth
 rw [← hK] at hwy ⊢
 subst hvv
 have HW:=Lib.hid hw
 have HF:=Lib.hid hft
 have HY:=Lib.hid hwy
 have HT:=Lib.hid hth
 have HK:=Lib.hid hKs
 have A0:=Lib.hid a0
 clear h a0 hl hw hh hft hf hwy hth hs hK hKs ho hb
 go_enter Tryz.func81,Tryz.ntmps81
 go_wp2_with fail
 refine HW.out.mono ?_; rintro e w1 ⟨rfl,a1⟩
 have k1:=a1.row (heap_alloc_new w (.cells K 31)) id
 have A1:=(hIq (A0.out.trans a1 (fun _ => fEq)) k1)
 clear a1 k1
 go_wp2_with fail
 refine (HF.out _ A1.out.1).mono ?_; rintro e w2 ⟨rfl,a2⟩
 have A2:=(hIq (A1.out.1.trans a2 (fun _ => fEq)) (a2.row A1.out.2 id))
 clear a2
 go_wp2_with (first
  | fail
  | ((with_reducible show zOq (.load 31 _)); refine wpList_load_part rfl 31 _ rfl w.heap.size 0 rfl A2.out.2 Tryz.underlying31 rfl sizeP (by rw [HK.out]; omega) K (by simp [← HK.out]) ?_))
 refine (HY.out _ A2.out.1).mono ?_; rintro e w3 ⟨v,rfl,o3,a3⟩
 obtain ⟨ao3,cap3,rfl⟩:=owns_form o3
 have A3:=(hIq (A2.out.1.trans a3 (fun _ => fEq)) (a3.row A2.out.2 id))
 clear a3 o3
 go_wp2_with (first
  | fail
  | ((with_reducible show zOq (.load 31 _)); refine wpList_load_part rfl 31 _ rfl w.heap.size 0 rfl A3.out.2 Tryz.underlying31 rfl sizeP (by rw [HK.out]; omega) K (by simp [← HK.out]) ?_))
 refine (HT.out _ A3.out.1).mono ?_; rintro e w4 ⟨rfl,a4⟩
 go_wp2
 go_ret2
 exact ⟨rfl,A3.out.1.trans a4 (fun _ => fEq)⟩
def WayAt (b0:Nat) (K:Array Value) (ao:Option Addr) (cap:Nat) (l:List Int) (w:World):Prop :=
 w.heap[b0]? = some (.cells K 31 (0,0)) ∧ w.ownsRow 0 3 1 (.slice ao l.length cap) l.length (hl l)
def WayG (G:Nat → Prop) (b0:Nat) (ao:Option Addr) (n cap:Nat) (k:Nat):Prop:=G k ∨ k = b0 ∨ (Value.slice ao n cap).ownBlock = some k
theorem WayAt.but {b0 cap:Nat} {K:Array Value} {ao:Option Addr} {l:List Int} (h:WayAt b0 K ao cap l w) (c:But (WayG G b0 ao l.length cap) w w'):WayAt b0 K ao cap l w' :=
 ⟨c.row h.1 (.inr (.inl rfl)),Ch.owns c h.2 (fun k hk hn => hn (.inr (.inr hk)))⟩
theorem WayAt.adds {b0 cap:Nat} {K:Array Value} {ao:Option Addr} {l:List Int} (h:WayAt b0 K ao cap l w) (c:Adds w w'):WayAt b0 K ao cap l w' :=
 ⟨c.row h.1 id,c.owns h.2 (fun _ _ h => h)⟩
theorem side_pos (GG:Good σ) (n:Int):0 ≤ (nd σ n).left ∧ 0 ≤ (nd σ n).right:=by
 cases hx:σ.get? n with
 | none => rw [nd_none hx]; exact ⟨Int.le_refl 0,Int.le_refl 0⟩
 | some x =>
  rw [nd_some hx]
  refine ⟨?_,?_⟩
  · by_cases e:x.1.left = 0
    · omega
    obtain ⟨y,hy,_⟩:=GG.sound.left n x hx e
    obtain ⟨m,hm,_⟩:=SlabSt.get?_some hy
    omega
  by_cases e:x.1.right = 0
  · omega
  obtain ⟨y,hy,_⟩:=GG.sound.right n x hx e
  obtain ⟨m,hm,_⟩:=SlabSt.get?_some hy
  omega
theorem beside_pos (GG:Good σ) (k:List UInt8) (h:Int) (d:Nat):0 ≤ besideS σ k h d:=by
 unfold besideS
 split
 · exact (side_pos GG h).1
 exact (side_pos GG h).2
theorem root_pos (GG:Good σ) {root:Int} (h:atHand σ root = 0):0 ≤ root:=by
 rcases held_hand GG.sound h with e | e
 · omega
 obtain ⟨x,hx,_⟩:=held_there e
 obtain ⟨m,hm,_⟩:=SlabSt.get?_some hx
 omega
theorem On.final {f:View} {k:List UInt8} {h:Int} {d:Nat} {l:List Int} {e:Int} (ho:On f k h d l e):e = 0 ∨ ∃ n,f e = some n ∧ n.kind ≠ 2:=by
 induction ho with
 | stop h0 => exact h0
 | step _ _ _ _ ih => exact ih
theorem leafS_nd (GG:Good σ) {key:List UInt8} (hk:key.length = 32) (value:List UInt8) (v:Value) {k:List UInt8} {h:Int} {d:Nat} {l:List Int} {e:Int} (ho:On (sk σ) k h d l e):nd (leafS σ key value v).2.2 e = nd σ e:=by
 rcases ho.final with rfl | ⟨n,hn,_⟩
 · have z:∀ τ:SlabSt Nd,τ.get? 0 = none:=fun τ => by
    cases hx:τ.get? 0 with
    | none => rfl
    | some x => obtain ⟨m,hm,_⟩:=SlabSt.get?_some hx; omega
   rw [nd_none (z _),nd_none (z _)]
 obtain ⟨x,hx,_⟩:=sk_get hn
 rw [nd_some hx,nd_some (leafS_get GG.sound.wf hx)]
end
section
variable {w0 w w' : World} {b : Nat} {σ : SlabSt Nd} {F G : Nat → Prop}
theorem Mine_ok (h:ROw w0 w b σ G) (GG:Good σ) (e1:Int) (key:List UInt8) (hk:key.length = 32) :
 Calls Tryz.prog 87 #[.pointer (some ⟨b,0,none⟩),.int .i64 e1,.agg (brow key)] w fun e w' => e = .returned (.bool (thereS σ key e1)) ∧ Adds w w':=by
 have hkd:=fun w1 (a:Adds w w1) => (h.adds a).kind GG e1
 have hky:=fun w1 (a:Adds w w1) (hk1:(nd σ e1).kind = 1) => (h.adds a).keyLeaf GG hk1
 unfold thereS
 obtain ⟨K,hK⟩:∃ K,K = brow key:=⟨_,rfl⟩
 have hKs:K.size = 32:=by rw [hK,brow_size,hk]
 rw [← hK]
 have HK:=Lib.hid hKs
 by_cases hk1:(nd σ e1).kind = 1
 · have hkl:(nd σ e1).key.length = 32:=by
    cases hx:σ.get? e1 with
    | none => rw [nd_none hx] at hk1; exact absurd (show (0:Nat) = 1 from hk1) (by decide)
    | some x => rw [nd_some hx]; exact (GG.fit.all _ _ (sk_some hx)).key
   have heq:=eql_keys 31 Tryz.underlying31 (nd σ e1).key key hkl hk
   obtain ⟨ek,hek⟩:∃ x,x = decide ((nd σ e1).key = key):=⟨_,rfl⟩
   obtain ⟨K2,hK2⟩:∃ K2,K2 = brow (nd σ e1).key:=⟨_,rfl⟩
   have hky:=fun w1 (a:Adds w w1) => hky w1 a hk1
   rw [← hK, ← hK2, ← hek] at heq
   rw [← hK2] at hky
   rw [hk1] at hkd
   rw [← hek,hk1]
   have HQ:=Lib.hid heq
   have HY:=Lib.hid hky
   have KD:=Lib.hid hkd
   have e1':(((1:Nat):Int) == 1) = true:=rfl
   clear heq hky hkd hKs hK hK2 hek hkl h GG hk1
   go_enter Tryz.func87,Tryz.ntmps87
   go_wp2
   refine wp_region_plan (fun wz => wz.heap[w.heap.size]? = some (.cells K 31 (0,0)) ∧ Adds w wz) 12 [(0,false),(1,false),(2,true),(3,false),(4,false),(5,false),(6,false),(8,false),(7,true),(9,false),(10,false),(11,false)] (by kernel_rfl) (by kernel_rfl) ?_ ?_
   · exact ⟨row_drew (heap_alloc_new _ _),((Ch.refl _ w).alloc _).drew⟩
   iterate 2
    iterate 1 refine plan_look rfl rfl (fun w0 hS => (by go_simp; try rfl)) ?_
    simp only [Act.put,nAq,nBq,nCq]
   refine plan_do rfl ?_
   go_wp2_with fail
   refine (KD.out _ (((Ch.refl _ w).alloc _).drew)).mono ?_; rintro e w2 ⟨rfl,a2⟩
   have H2:=(hIq (a2.row (row_drew (heap_alloc_new w (.cells K 31))) id) ((((Ch.refl (fun _ => False) w).alloc (.cells K 31)).drew).trans a2 (fun _ => fEq)))
   clear a2
   dsimp only
   go_step
   refine wpList_nil ?_
   change _ ∧ _
   refine ⟨H2.out,?_⟩
   iterate 4
    refine plan_look rfl rfl (fun w0 hS => (by clear hS; go_simp; try rfl)) ?_
    simp only [Act.put,nAq,nBq,nCq]
   refine plan_gload_part (cur:=K) (t:=31) (fr:=(0,0)) rfl rfl 31 (.tmp 5) rfl w.heap.size 0 32 rfl (fun w0 hS => hS.1) Tryz.underlying31 rfl sizeP (by rw [HK.out]; omega) K (by simp [← HK.out]) ?_
   simp only [Act.put,nAq,nBq,nCq]
   refine plan_do rfl ?_
   go_wp2_with fail
   refine (HY.out _ H2.out.2).mono ?_; rintro e w3 ⟨rfl,a3⟩
   have H3:=(hIq (a3.row H2.out.1 id) (H2.out.2.trans a3 (fun _ => fEq)))
   clear a3
   dsimp only
   go_step
   refine wpList_nil ?_
   change _ ∧ _
   refine ⟨H3.out,?_⟩
   refine plan_look (v:=.bool ek) rfl rfl (fun w0 hS => (by have hq:=HQ.out w0; rw [run_eql_struct] at hq; clear hS; go_simp)) ?_
   simp only [Act.put,nAq,nBq,nCq]
   iterate 2
    refine plan_look (v:=.bool ek) rfl rfl (fun w0 hS => (by clear hS; go_simp; try rfl)) ?_
    simp only [Act.put,nAq,nBq,nCq]
   refine plan_end ?_; simp only [List.drop_succ_cons,List.drop_zero]
   go_wp2
   refine NoPanic.normal ?_
   go_wp2
   go_ret
   exact ⟨by simp,H3.out.2⟩
 obtain ⟨kd,hkd'⟩:∃ x,x = (nd σ e1).kind:=⟨_,rfl⟩
 rw [← hkd'] at hkd hk1 ⊢
 have KD:=Lib.hid hkd
 have e1':((kd:Int) == 1) = false:=by simpa using (show ¬ (kd:Int) = 1 by omega)
 have e2':decide ((kd:Int) = 1) = false:=decide_eq_false (by omega)
 rw [decide_eq_false hk1,Bool.false_and]
 clear hky hkd hKs hK hkd' h GG hk1
 go_enter Tryz.func87,Tryz.ntmps87
 go_wp2
 refine wp_region_plan (fun wz => wz.heap[w.heap.size]? = some (.cells K 31 (0,0)) ∧ Adds w wz) 12 [(0,false),(1,false),(2,true),(3,false),(4,false),(5,false),(6,false),(7,false),(8,false),(9,false),(10,false),(11,false)] (by kernel_rfl) (by kernel_rfl) ?_ ?_
 · exact ⟨row_drew (heap_alloc_new _ _),((Ch.refl _ w).alloc _).drew⟩
 iterate 2
  iterate 1 refine plan_look rfl rfl (fun w0 hS => (by go_simp; try rfl)) ?_
  simp only [Act.put,nAq,nBq,nCq]
 refine plan_do rfl ?_
 go_wp2_with fail
 refine (KD.out _ (((Ch.refl _ w).alloc _).drew)).mono ?_; rintro e w2 ⟨rfl,a2⟩
 have H2:=(hIq (a2.row (row_drew (heap_alloc_new w (.cells K 31))) id) ((((Ch.refl (fun _ => False) w).alloc (.cells K 31)).drew).trans a2 (fun _ => fEq)))
 clear a2
 dsimp only
 go_step
 refine wpList_nil ?_
 change _ ∧ _
 refine ⟨H2.out,?_⟩
 iterate 2
  refine plan_look (v:=.bool false) rfl rfl (fun w0 hS => (by clear hS; go_simp; try rfl)) ?_
  simp only [Act.put,nAq,nBq,nCq]
 iterate 5
  refine plan_skip rfl (by rfl) ?_
  simp only [Act.put,nAq,nBq,nCq]
 iterate 2
  refine plan_look (v:=.bool false) rfl rfl (fun w0 hS => (by clear hS; go_simp; try rfl)) ?_
  simp only [Act.put,nAq,nBq,nCq]
 refine plan_end ?_; simp only [List.drop_succ_cons,List.drop_zero]
 go_wp2
 refine NoPanic.normal ?_
 go_wp2
 go_ret
 exact ⟨rfl,H2.out.2⟩
def UpRet (w0 w w':World) (b:Nat) (σ:SlabSt Nd) (G:Nat → Prop) (key:List UInt8) (h:Int) (d:Nat) (now:Int) (e:Ending):Prop :=
 (∃ n:Int,e = .returned (.tuple #[.int .i64 (up9 σ key h d now).1,.int .i64 n])) ∧ ROw w0 w' b (up9 σ key h d now).2 G ∧ But G w w'
theorem Up_ok (h:ROw w0 w b σ G) (GG:Good σ) (key:List UInt8) (hk:key.length = 32) (n:Int) (d:Nat) (now:Int) :
 Calls Tryz.prog 94 #[.pointer (some ⟨b,0,none⟩),.agg (brow key),.int .i64 (d:Int),.int .i64 n,.int .i64 now] w fun e w' => UpRet w0 w w' b σ G key n d now e:=by
 obtain ⟨K,hK⟩:∃ K,K = brow key:=⟨_,rfl⟩
 have hKs:K.size = 32:=by rw [hK,brow_size,hk]
 have a0:Adds w (w.alloc (.cells K 31)):=(Ch.refl (fun _ => False) w).alloc _
 have o1:ROw w0 (w.alloc (.cells K 31)) b σ (fun k => G k ∨ k = w.heap.size):=h.more a0 (fun k hk => hk.imp id (fun e => by subst e; exact ⟨Nat.le_refl _,by simp⟩))
 have ho:=Other9_ok o1 GG n d key hk
 have hz:(nd σ 0).kind = 0:=nd_gone GG.fit.zero
 have hp:=beside_pos GG key n d
 have hS:=@up9_skip σ key n d now
 have hT:=@up9_take σ key n d now
 have hU:=@up9_step σ key n d now
 have HO1:=Lib.hid o1
 have HK:=(hIq hKs (aIq hK hk))
 have HG:=Lib.hid GG
 have A0:=(hIq (heap_alloc_new w (.cells K 31)) a0)
 have hw:∀ (w':World) (e:Ending) (x:Int × SlabSt Nd),up9 σ key n d now = x → (∃ m:Int,e = .returned (.tuple #[.int .i64 x.1,.int .i64 m])) → ROw w0 w' b x.2 (fun k => G k ∨ k = w.heap.size) → But (fun k => G k ∨ k = w.heap.size) w w' → UpRet w0 w w' b σ G key n d now e:=fun w' e x e1 h1 h2 h3 => by
  unfold UpRet
  rw [e1]
  exact ⟨h1,h2.less (fun _ h => .inl h),h3.less (fun _ h => .inl h)⟩
 have HW:=Lib.hid hw
 have hmd:=fun (w1:World) (σ1:SlabSt Nd) (h1:ROw w0 w1 b σ1 (fun k => G k ∨ k = w.heap.size)) (G1:Good σ1) (own other:Int) => Made_ok h1 G1 (d:Int) key hk own other
 rw [← hK] at hmd
 have HM:=Lib.hid hmd
 rw [← hK] at ho ⊢
 unfold stepS at hU
 obtain ⟨o,hoo⟩:∃ o,o = besideS σ key n d:=⟨_,rfl⟩
 rw [← hoo] at ho hp hS hT hU
 have HSTU:=(hIq @hS (aIq @hT @hU))
 have HO:=Lib.hid ho
 clear hS hT hU ho hw hmd hoo o1 hKs hK a0 h
 by_cases h0:o = 0
 · subst h0
   obtain ⟨kd,hkd⟩:∃ kd,kd = (nd σ now).kind:=⟨_,rfl⟩
   by_cases hk2:kd = 2
   · have hnn:now ≠ 0:=fun e => by rw [e,hz] at hkd; omega
     have hn0:(now == 0) = false:=by simpa using hnn
     have HN0:=Lib.hid hnn
     have HKD:=Lib.hid hkd
     have HKD2:=Lib.hid hk2
     have hkq:((kd:Int) != 2) = false:=by rw [hk2]; rfl
     clear hnn
     clear hkd hk2 hz hp
     go_enter Tryz.func94,Tryz.ntmps94
     go_wp2_with (first
      | fail
      | ((with_reducible show zOq (.load 31 _)); refine wpList_load_part rfl 31 _ rfl w.heap.size 0 rfl A0.out.1 Tryz.underlying31 rfl sizeP (by rw [HK.out.1]; omega) K (by simp [← HK.out.1]) ?_))
     refine HO.out.mono ?_; rintro e w2 ⟨rfl,a2⟩
     have H2:=(hIq (a2.row A0.out.1 id) (aIq (HO1.out.adds a2) (A0.out.2.trans a2 (fun _ => fEq))))
     clear a2
     go_wp2_with fail
     refine (H2.out.2.1.kind HG.out now).mono ?_; rintro e w3 ⟨he,a3⟩
     rw [← HKD.out] at he
     subst he
     have H3:=(hIq (a3.row H2.out.1 id) (aIq (H2.out.2.1.adds a3) (H2.out.2.2.trans a3 (fun _ => fEq))))
     clear a3
     go_wp2_with (first
      | fail
      | ((with_reducible show zOq (.load 31 _)); refine wpList_load_part rfl 31 _ rfl w.heap.size 0 rfl H3.out.1 Tryz.underlying31 rfl sizeP (by rw [HK.out.1]; omega) K (by simp [← HK.out.1]) ?_))
     refine (HM.out _ _ H3.out.2.1 HG.out now 0).mono ?_; rintro e w4 ⟨rfl,o4,b4⟩
     go_wp2
     go_ret2
     refine HW.out _ _ _ (HSTU.out.2.2 (fun h => h.2 (by rw [← HKD.out]; exact HKD2.out)) (fun h => HN0.out h.1)) ⟨_,rfl⟩ ?_ ((Adds.but H3.out.2.2).then b4)
     rw [heldS_zero]
     exact o4
   have hkq:((kd:Int) != 2) = true:=by simpa using (show ¬ (kd:Int) = 2 by omega)
   have HKD:=Lib.hid hkd
   have HKD2:=Lib.hid hk2
   clear hkd hk2 hz hp
   go_enter Tryz.func94,Tryz.ntmps94
   go_wp2_with (first
    | fail
    | ((with_reducible show zOq (.load 31 _)); refine wpList_load_part rfl 31 _ rfl w.heap.size 0 rfl A0.out.1 Tryz.underlying31 rfl sizeP (by rw [HK.out.1]; omega) K (by simp [← HK.out.1]) ?_))
   refine HO.out.mono ?_; rintro e w2 ⟨rfl,a2⟩
   have H2:=(hIq (a2.row A0.out.1 id) (aIq (HO1.out.adds a2) (A0.out.2.trans a2 (fun _ => fEq))))
   clear a2
   go_wp2_with fail
   refine (H2.out.2.1.kind HG.out now).mono ?_; rintro e w3 ⟨he,a3⟩
   rw [← HKD.out] at he
   subst he
   have H3:=(hIq (a3.row H2.out.1 id) (aIq (H2.out.2.1.adds a3) (H2.out.2.2.trans a3 (fun _ => fEq))))
   clear a3
   go_wp2
   go_ret2
   exact HW.out _ _ _ (HSTU.out.1 ⟨by trivial,by rw [← HKD.out]; exact HKD2.out⟩) ⟨_,rfl⟩ H3.out.2.1 (Adds.but H3.out.2.2)
 have ho0:(o == 0) = false:=by simpa using h0
 have hop:0 < o:=by omega
 have hhe:heldS σ o = (holdS σ o).2:=by unfold heldS; rw [if_pos h0]
 have hgh:Good (heldS σ o):=HG.out.heldS o
 rw [hhe] at HSTU hgh
 obtain ⟨τ,hτ⟩:∃ τ,τ = (holdS σ o).2:=⟨_,rfl⟩
 rw [← hτ] at HSTU hgh
 have HT:=(hIq hτ (aIq hgh h0))
 clear hhe hgh hτ h0 hp hz
 by_cases hn:now = 0
 · subst hn
   obtain ⟨kd,hkd⟩:∃ kd,kd = (nd τ o).kind:=⟨_,rfl⟩
   have HKD:=Lib.hid hkd
   by_cases hk1:kd = 1
   · have hkq:((kd:Int) == 1) = true:=by rw [hk1]; rfl
     have HKD2:=Lib.hid hk1
     clear hkd hk1
     go_enter Tryz.func94,Tryz.ntmps94
     go_wp2_with (first
      | fail
      | ((with_reducible show zOq (.load 31 _)); refine wpList_load_part rfl 31 _ rfl w.heap.size 0 rfl A0.out.1 Tryz.underlying31 rfl sizeP (by rw [HK.out.1]; omega) K (by simp [← HK.out.1]) ?_))
     refine HO.out.mono ?_; rintro e w2 ⟨rfl,a2⟩
     have H2:=(hIq (a2.row A0.out.1 id) (aIq (HO1.out.adds a2) (A0.out.2.trans a2 (fun _ => fEq))))
     clear a2
     go_wp2_with fail
     refine (H2.out.2.1.hold HG.out o).mono ?_; rintro e w3 ⟨rfl,o3,b3⟩
     rw [← HT.out.1] at o3
     have H3:=(hIq (b3.row H2.out.1 (.inr rfl)) (aIq o3 ((Adds.but H2.out.2.2).then b3)))
     clear o3 b3
     go_wp2_with fail
     refine (H3.out.2.1.kind HT.out.2.1 o).mono ?_; rintro e w4 ⟨he,a4⟩
     rw [← HKD.out] at he
     subst he
     have H4:=(hIq (a4.row H3.out.1 id) (aIq (H3.out.2.1.adds a4) (H3.out.2.2.then (Adds.but a4))))
     clear a4
     go_wp2
     go_ret2
     exact HW.out _ _ _ (HSTU.out.2.1 (fun h => HT.out.2.2 h.1) ⟨by trivial,by rw [← HKD.out]; exact HKD2.out⟩) ⟨_,rfl⟩ H4.out.2.1 H4.out.2.2
   have hkq:((kd:Int) == 1) = false:=by simpa using (show ¬ (kd:Int) = 1 by omega)
   have HKD2:=Lib.hid hk1
   clear hkd hk1
   go_enter Tryz.func94,Tryz.ntmps94
   go_wp2_with (first
    | fail
    | ((with_reducible show zOq (.load 31 _)); refine wpList_load_part rfl 31 _ rfl w.heap.size 0 rfl A0.out.1 Tryz.underlying31 rfl sizeP (by rw [HK.out.1]; omega) K (by simp [← HK.out.1]) ?_))
   refine HO.out.mono ?_; rintro e w2 ⟨rfl,a2⟩
   have H2:=(hIq (a2.row A0.out.1 id) (aIq (HO1.out.adds a2) (A0.out.2.trans a2 (fun _ => fEq))))
   clear a2
   go_wp2_with fail
   refine (H2.out.2.1.hold HG.out o).mono ?_; rintro e w3 ⟨rfl,o3,b3⟩
   rw [← HT.out.1] at o3
   have H3:=(hIq (b3.row H2.out.1 (.inr rfl)) (aIq o3 ((Adds.but H2.out.2.2).then b3)))
   clear o3 b3
   go_wp2_with fail
   refine (H3.out.2.1.kind HT.out.2.1 o).mono ?_; rintro e w4 ⟨he,a4⟩
   rw [← HKD.out] at he
   subst he
   have H4:=(hIq (a4.row H3.out.1 id) (aIq (H3.out.2.1.adds a4) (H3.out.2.2.then (Adds.but a4))))
   clear a4
   go_wp2_with (first
    | fail
    | ((with_reducible show zOq (.load 31 _)); refine wpList_load_part rfl 31 _ rfl w.heap.size 0 rfl H4.out.1 Tryz.underlying31 rfl sizeP (by rw [HK.out.1]; omega) K (by simp [← HK.out.1]) ?_))
   refine (HM.out _ _ H4.out.2.1 HT.out.2.1 0 o).mono ?_; rintro e w5 ⟨rfl,o5,b5⟩
   go_wp2
   go_ret2
   exact HW.out _ _ _ (HSTU.out.2.2 (fun h => HT.out.2.2 h.1) (fun h => HKD2.out (by rw [HKD.out]; exact h.2))) ⟨_,rfl⟩ o5 (H4.out.2.2.then b5)
 have hn0:(now == 0) = false:=by simpa using hn
 have HN:=Lib.hid hn
 clear hn
 go_enter Tryz.func94,Tryz.ntmps94
 go_wp2_with (first
  | fail
  | ((with_reducible show zOq (.load 31 _)); refine wpList_load_part rfl 31 _ rfl w.heap.size 0 rfl A0.out.1 Tryz.underlying31 rfl sizeP (by rw [HK.out.1]; omega) K (by simp [← HK.out.1]) ?_))
 refine HO.out.mono ?_; rintro e w2 ⟨rfl,a2⟩
 have H2:=(hIq (a2.row A0.out.1 id) (aIq (HO1.out.adds a2) (A0.out.2.trans a2 (fun _ => fEq))))
 clear a2
 go_wp2_with fail
 refine (H2.out.2.1.hold HG.out o).mono ?_; rintro e w3 ⟨rfl,o3,b3⟩
 rw [← HT.out.1] at o3
 have H3:=(hIq (b3.row H2.out.1 (.inr rfl)) (aIq o3 ((Adds.but H2.out.2.2).then b3)))
 clear o3 b3
 go_wp2_with (first
  | fail
  | ((with_reducible show zOq (.load 31 _)); refine wpList_load_part rfl 31 _ rfl w.heap.size 0 rfl H3.out.1 Tryz.underlying31 rfl sizeP (by rw [HK.out.1]; omega) K (by simp [← HK.out.1]) ?_))
 refine (HM.out _ _ H3.out.2.1 HT.out.2.1 now o).mono ?_; rintro e w5 ⟨rfl,o5,b5⟩
 go_wp2
 go_ret2
 exact HW.out _ _ _ (HSTU.out.2.2 (fun h => HT.out.2.2 h.1) (fun h => HN.out h.1)) ⟨_,rfl⟩ o5 (H3.out.2.2.then b5)
end
end Go.Proofs.YtmeglndnkdgkoaaGreat.Store

/- StoreCounts: the walk. -/
import Derived.Test.YtdgdpbmaalcedaaCm7
import Derived.Deep.LoopGhost
import Derived.Deep.CutRange
import Derived.Deep.DeepCutAuto
import Derived.Deep.CutBlock
namespace Go.Proofs.Ytdgdpbmaalcedaa.Law7
open Go Go.RowKit Go.Proofs.Ytdgdpbmaalcedaa Go.Proofs.Ytdgdpbmaalcedaa.ShaW Go.Proofs.Ytdgdpbmaalcedaa.Path Go.Proofs.Ytdgdpbmaalcedaa.Store Go.Maps
set_option maxHeartbeats 1600000
set_option linter.unusedVariables false

/-- The store in the law's world; 'w': the world that the law began in. -/
def St (w wr : World) (s : Nat) (σ : SlabSt Nd) (No : Nat → Prop) : Prop := ∃ F, At wr s F σ ∧ (∀ j, F j → w.heap.size ≤ j) ∧ (∀ j, F j → ¬ No j) ∧ Adds w wr
theorem St.adds {w wr w' : World} {s : Nat} {σ : SlabSt Nd} {No : Nat → Prop} (h : St w wr s σ No) (ha : Adds wr w') : St w w' s σ No := by
  obtain ⟨F, h1, h2, h3, h4⟩ := h
  exact ⟨F, h1.adds ha, h2, h3, h4.trans ha (fun _ h => h.elim)⟩
theorem St.world {w wr : World} {s : Nat} {σ : SlabSt Nd} {No : Nat → Prop} (h : St w wr s σ No) : Adds w wr := by obtain ⟨F, h1, h2, h3, h4⟩ := h; exact h4
/-- A change beside the store. -/
theorem St.beside {w wr w' : World} {s : Nat} {σ : SlabSt Nd} {No C : Nat → Prop} (h : St w wr s σ No) (hc : Ch C wr w') (hC : ∀ k, C k → No k ∧ w.heap.size ≤ k) : St w w' s σ No := by
  obtain ⟨F, h1, h2, h3, h4⟩ := h
  exact ⟨F, h1.keep hc (fun k hf hc => h3 k hf (hC k hc).1), h2, h3, h4.trans hc (fun k hk => .inr (hC k hk).2)⟩
/-- A call of the store: what lies beside it stays. -/
theorem St.moved {w wr w' : World} {s : Nat} {σ' : SlabSt Nd} {No : Nat → Prop} (hN : ∀ k, No k → k < wr.heap.size) {F : Nat → Prop} (h2 : ∀ j, F j → w.heap.size ≤ j) (h3 : ∀ j, F j → ¬ No j) (h4 : Adds w wr) (hm : Moved wr w' s F σ') :
    St w w' s σ' No ∧ (∀ {g : Nat} {o : Obj}, wr.heap[g]? = some o → No g → w'.heap[g]? = some o) ∧ wr.heap.size ≤ w'.heap.size := by
  obtain ⟨F', g1, g2, g3⟩ := hm
  refine ⟨⟨F', g1, fun k hk => (g3 k hk).elim (h2 k) (fun h => Nat.le_trans h4.size h), fun k hk hn => ?_, h4.trans g2 (fun k hk => .inr (h2 k hk))⟩, fun {g o} hg hn => g2.row hg (fun hf => h3 g hf hn), g2.size⟩
  rcases g3 k hk with h | h
  · exact h3 k h hn
  · have := hN k hn; omega

theorem count_is {σ : SlabSt Nd} {n : Int} {x : Nd × Nat} (h : σ.get? n = some x) : σ.count n = x.2 := by unfold SlabSt.count; rw [h]; rfl
theorem St.less {w wr : World} {s : Nat} {σ : SlabSt Nd} {No No' : Nat → Prop} (h : St w wr s σ No) (hn : ∀ k, No' k → No k) : St w wr s σ No' := by
  obtain ⟨F, h1, h2, h3, h4⟩ := h
  exact ⟨F, h1, h2, fun j hj hn' => h3 j hj (hn j hn'), h4⟩
/-- The store and the handles' row; 'σ0': the store at the sweep's beginning; 'k': so many handles are let go. -/
def Swp (w : World) (s : Nat) (σ0 : SlabSt Nd) (m : Nat) (vo : Option Addr) (vc : Nat) (L : List Nat) (k : Nat) (fr : Int) (σ : SlabSt Nd) (wx : World) : Prop :=
  St w wx s σ (fun j => (Value.slice vo m vc).ownBlock = some j) ∧ wx.ownsRow w.heap.size 3 1 (.slice vo m vc) m (ints L) ∧ Sound σ [] ∧ fr + live σ = m ∧
    (∀ i, i < k → (nd σ (L.getD i 0 : Nat)).held ≤ 0) ∧ (∀ x y, σ.get? x = some y → ∃ z, σ0.get? x = some z) ∧ live σ ≤ 65536
theorem Swp.adds {w : World} {s : Nat} {σ0 σ : SlabSt Nd} {m : Nat} {vo : Option Addr} {vc : Nat} {L : List Nat} {k : Nat} {fr : Int} {wx w' : World} (h : Swp w s σ0 m vo vc L k fr σ wx) (ha : Adds wx w') : Swp w s σ0 m vo vc L k fr σ w' := by
  obtain ⟨h1, h2, h3⟩ := h
  exact ⟨h1.adds ha, ha.owns h2 (fun _ _ h => h), h3⟩
theorem held_nonneg {σ : SlabSt Nd} (hs : Sound σ []) (x : Int) : 0 ≤ (nd σ x).held := by
  cases hx : σ.get? x with
  | none => rw [nd_none hx]; decide
  | some y => rw [nd_some hx]; exact hs.held x y hx
theorem Swp.drop {w : World} {s : Nat} {σ0 σ : SlabSt Nd} {m : Nat} {vo : Option Addr} {vc : Nat} {L : List Nat} {k : Nat} {fr : Int} {wx : World} (h : Swp w s σ0 m vo vc L k fr σ wx) (x : Int) (hx : (nd σ x).held ≠ 0) :
    ∃ n : Int, Calls Try.prog 34 #[.pointer (some ⟨s, 0, none⟩), .int .i64 x] wx fun e w' => e = .returned (.tuple #[.int .i64 n, .int .i64 0]) ∧ ∃ σ', Swp w s σ0 m vo vc L k (fr + n) σ' w' ∧ total σ' < total σ := by
  obtain ⟨⟨F, f1, f2, f3, f4⟩, h2, h3, h4, h5, h6, h7⟩ := h
  obtain ⟨d1, d2, d3, d4, d5⟩ := dropS_sound h3 x
  obtain ⟨e1, e2⟩ := d4 hx
  refine ⟨(dropS σ x).1, ?_⟩
  have hd := Drop_ok f1 x
  rw [e1] at hd
  refine hd.mono fun e w' ⟨he, hm⟩ => ⟨he, (dropS σ x).2.2, ?_, e2⟩
  have hN : ∀ j, (Value.slice vo m vc).ownBlock = some j → j < wx.heap.size := fun j hj => (h2.lt j hj).2
  obtain ⟨g1, g2, g3⟩ := St.moved hN f2 f3 f4 hm
  have hle : live (dropS σ x).2.2 ≤ live σ := by
    unfold dropS
    split
    · rename_i hc
      have hb : live (bump σ x (-1)) = live σ := bump_live
      obtain ⟨y, hy⟩ : ∃ y, σ.get? x = some y := Option.isSome_iff_exists.1 hc.1
      have h0 := h3.held x y hy
      have hne : y.1.held ≠ 0 := by rw [← nd_some hy]; exact hx
      have hsb : Sound (bump σ x (-1)) [x] := h3.bump hy (by omega) (by omega) (by simp) (fun k hk => by simp [Ne.symm hk])
      have := (sweep_sound _ _ 0 hsb).2.1
      show live (sweep (bump σ x (-1)) [x] 0).2 ≤ live σ
      omega
    · exact Nat.le_refl _
  refine ⟨g1, ?_, d1, by omega, fun i hi => ?_, fun x' y' hy' => ?_, by omega⟩
  · obtain ⟨F', _, g5, _⟩ := hm
    exact g5.owns h2 (fun k hk hf => f3 k hf hk)
  · have h8 := h5 i hi
    have h9 := held_nonneg h3 (L.getD i 0 : Nat)
    cases hg : (dropS σ x).2.2.get? (L.getD i 0 : Nat) with
    | none => rw [nd_none hg]; decide
    | some y =>
      obtain ⟨z, hz, hle⟩ := d5 _ y hg
      rw [nd_some hg]
      rw [nd_some hz] at h8
      omega
  · obtain ⟨z, hz, _⟩ := d5 _ y' hy'
    exact h6 _ z hz
/-- The store, its handles and the map of sides. -/
def Bes (w : World) (s : Nat) (σ : SlabSt Nd) (B m : Nat) (vo : Option Addr) (vc : Nat) (L : List Nat) (n : Nat) (f : Int → Nat) (wx : World) : Prop :=
  St w wx s σ (fun j => j = B ∨ (Value.slice vo m vc).ownBlock = some j) ∧ wx.ownsRow w.heap.size 3 1 (.slice vo m vc) m (ints L) ∧ MapAt wx B n f ∧ w.heap.size ≤ B ∧ (Value.slice vo m vc).ownBlock ≠ some B
theorem Bes.adds {w : World} {s : Nat} {σ : SlabSt Nd} {B m : Nat} {vo : Option Addr} {vc : Nat} {L : List Nat} {n : Nat} {f : Int → Nat} {wx w' : World} (h : Bes w s σ B m vo vc L n f wx) (ha : Adds wx w') : Bes w s σ B m vo vc L n f w' := by
  obtain ⟨h1, h2, h3, h4, h5⟩ := h
  exact ⟨h1.adds ha, ha.owns h2 (fun _ _ h => h), h3.keep ha id, h4, h5⟩
theorem Bes.put {w : World} {s : Nat} {σ : SlabSt Nd} {B m : Nat} {vo : Option Addr} {vc : Nat} {L : List Nat} {n n' : Nat} {f f' : Int → Nat} {wx w' : World} (h : Bes w s σ B m vo vc L n f wx) (hm : MapAt w' B n' f') (hc : Ch (fun k => k = B) wx w') : Bes w s σ B m vo vc L n' f' w' := by
  obtain ⟨h1, h2, h3, h4, h5⟩ := h
  exact ⟨h1.beside hc (fun k hk => ⟨.inl hk, by omega⟩), hc.owns h2 (fun k hk e => h5 (by rw [hk, e])), hm, h4, h5⟩

set_option maxRecDepth 100000 in
theorem counts_many (n : Int) (ao : Option Addr) (len cap : Nat) (hl : 200 < len) (w : World) :
    Calls Try.prog 8 #[.int .i64 n, .slice ao len cap] w fun e w' => e = .returned (.bool true) ∧ Adds w w' := by
  have hl' : (200 : Int) < (len : Int) := by omega
  go_enter Try.func8, Try.ntmps8
  go_wp2_with fail
  refine (awake_ok w).mono ?_; rintro e w1 ⟨rfl, h1⟩
  have H1 := Lib.hid h1
  clear h1
  go_wp2
  go_ret
  exact ⟨rfl, H1.out⟩
set_option maxRecDepth 100000 in
theorem counts_low (n : Int) (hn : n < 1) (ao : Option Addr) (len cap : Nat) (hl : len ≤ 200) (w : World) :
    Calls Try.prog 8 #[.int .i64 n, .slice ao len cap] w fun e w' => e = .returned (.bool true) ∧ Adds w w' := by
  have hl' : ¬ (200 : Int) < (len : Int) := by omega
  go_enter Try.func8, Try.ntmps8
  go_wp2_with fail
  refine (awake_ok w).mono ?_; rintro e w1 ⟨rfl, h1⟩
  have H1 := Lib.hid h1
  clear h1
  go_wp2
  go_ret
  exact ⟨rfl, H1.out⟩
set_option maxRecDepth 100000 in
theorem counts_high (n : Int) (hn : 60 < n) (ao : Option Addr) (len cap : Nat) (hl : len ≤ 200) (w : World) :
    Calls Try.prog 8 #[.int .i64 n, .slice ao len cap] w fun e w' => e = .returned (.bool true) ∧ Adds w w' := by
  have hl' : ¬ (200 : Int) < (len : Int) := by omega
  have hn1 : ¬ n < 1 := by omega
  go_enter Try.func8, Try.ntmps8
  go_wp2_with fail
  refine (awake_ok w).mono ?_; rintro e w1 ⟨rfl, h1⟩
  have H1 := Lib.hid h1
  clear h1
  go_wp2
  go_ret
  exact ⟨rfl, H1.out⟩

set_option maxRecDepth 100000 in
theorem counts_good (n : Nat) (hn1 : 1 ≤ n) (hn2 : n ≤ 60) (ao : Option Addr) (len cap : Nat) (hl : len ≤ 200) (w : World) (ha : ActsAt w ao len) :
    Calls Try.prog 8 #[.int .i64 n, .slice ao len cap] w fun e w' => e = .returned (.bool true) ∧ Adds w w' := by
  have hl' : ¬ (200 : Int) < (len : Int) := by omega
  have hn1' : ¬ (n : Int) < 1 := by omega
  have hn2' : ¬ 60 < (n : Int) := by omega
  have HA := Lib.hid ha
  clear ha
  go_enter Try.func8, Try.ntmps8
  go_wp2_with fail
  refine (awake_ok w).mono ?_; rintro e w1 ⟨rfl, h1⟩
  have H1 := Lib.hid h1
  clear h1
  go_wp2_with fail
  refine (New_ok n _ hn1 (by omega)).mono ?_; rintro e w2 ⟨s, F, rfl, hA, hF, hc⟩
  have hS2 : St w w2 s ⟨n, [], []⟩ (fun _ => False) := ⟨F, hA, fun j hj => by have := hF j hj; have := H1.out.size; simp at *; omega, fun _ _ h => h, H1.out.trans hc (fun _ h => h.elim)⟩
  have HS2 := Lib.hid hS2
  clear hA hF hc hS2
  go_wp2
  go_loopg [8] len (fun g s8 wr => ∃ (k : Nat) (σ : SlabSt Nd), k ≤ len ∧ g = len - k ∧ s8 = .int .i64 k ∧ St w wr s σ (fun _ => False) ∧ Sound σ [])
  case atStart => exact ⟨0, _, Nat.zero_le _, rfl, rfl, HS2.out, Sound.new n hn1 (by omega)⟩
  case round =>
    obtain ⟨k, σ, hk, rfl, rfl, hS, hso⟩ := hrel
    have HS := Lib.hid (And.intro hS hso)
    clear hS hso
    by_cases hkl : k < len
    · obtain ⟨g, off, x, rfl, hx, hp⟩ := HA.out k hkl
      obtain ⟨F, f1, f2, f3, f4⟩ := HS.out.1
      obtain ⟨cur, t, fr, hr, hfit, hext⟩ := hp.keep f4 id
      have hxs := Act7.size hx.key
      rw [hxs] at hfit hext
      obtain ⟨C, hC⟩ : ∃ C, C = x.cells := ⟨_, rfl⟩
      have hdo := do_ok f1 HS.out.2 x (hx.keep f4 (fun _ h => h.elim))
      rw [← hC] at hext hdo hxs
      have hsz : (Try.prog.info? 79).map (·.size) = some 37 := by kernel_rfl
      have HD := Lib.hid hdo
      have HR := Lib.hid (And.intro hr (And.intro hfit (And.intro hext hsz)))
      have HF := Lib.hid (And.intro f2 (And.intro f3 f4))
      have hki : (k : Int) < (len : Int) := by omega
      clear f1 f2 f3 f4 hr hfit hext hdo hC hsz hx hp hxs
      go_wp2_with (first
        | ((with_reducible show wpList _ _ _ (⟨_, .load 79 _, _, _, _, _⟩ :: _) _ _); refine wpList_load_part rfl 79 _ rfl g (off + k * 37) rfl HR.out.1 Try.underlying79 rfl HR.out.2.2.2 HR.out.2.1 C HR.out.2.2.1 ?_))
      refine HD.out.mono ?_; rintro e w3 ⟨⟨v3, rfl⟩, σ', hm, hs'⟩
      have hS' := St.moved (No := fun _ => False) (fun _ h => h.elim) HF.out.1 HF.out.2.1 HF.out.2.2 hm
      have HS' := Lib.hid (And.intro hS'.1 hs')
      clear hm hs' hS'
      go_wp2
      go_roundg (len - (k + 1))
      case measure => omega
      case rel => exact ⟨k + 1, σ', by omega, rfl, by go_num, HS'.out⟩
    · obtain rfl : k = len := by omega
      have hki : ¬ (k : Int) < (k : Int) := by omega
      obtain ⟨F, f1, f2, f3, f4⟩ := HS.out.1
      have hhd := Handles_ok f1
      have hlv := live_le σ
      have hl1 := f1.len
      have hl2 := f1.room
      have hml := handles_length (σ := σ)
      obtain ⟨m, hm⟩ : ∃ m, m = (handles σ).length := ⟨_, rfl⟩
      obtain ⟨L, hL⟩ : ∃ L, L = handles σ := ⟨_, rfl⟩
      rw [← hm, ← hL] at hhd
      have hm16 : m ≤ 65536 := by omega
      have hm16' : (m : Int) ≤ 65536 := by omega
      have HD := Lib.hid hhd
      have HM := Lib.hid (And.intro hm (And.intro hL hml))
      have HF := Lib.hid (And.intro f1 (And.intro f2 (And.intro f3 f4)))
      clear f1 f2 f3 f4 hhd hlv hl1 hl2 hml hm hL
      have hmm := @run_makeMap Try.prog
      go_wp2_with fail
      refine HD.out.mono ?_; rintro e w3 ⟨v, rfl, hown, had⟩
      obtain ⟨vo, vc, rfl⟩ := owns_form hown
      have hvb : ∀ j, (Value.slice vo m vc).ownBlock = some j → wr.heap.size ≤ j ∧ j < w3.heap.size := hown.lt
      have HO := Lib.hid (And.intro hown (And.intro had hvb))
      clear hown had hvb
      have hB0 : Bes w s σ w3.heap.size m vo vc L 0 (fun _ => 0) (w3.alloc (.map #[] 0)) := by
        have hsr := HF.out.2.2.2.size
        have hsz := HO.out.2.1.size
        have hFl : ∀ j, F j → j < wr.heap.size := by obtain ⟨_, _, _, _, _, _, _, q6⟩ := HF.out.1; exact q6
        refine ⟨⟨F, (HF.out.1.adds HO.out.2.1).adds ((Ch.refl _ _).alloc _), HF.out.2.1, fun j hj hn => ?_, (HF.out.2.2.2.trans HO.out.2.1 (fun _ h => h.elim)).alloc _⟩, (HO.out.1.base (fun k hk => by have := HO.out.2.2 k hk; omega)).alloc _, ⟨.map [], World.ownsMap_made w3 Try.prog 3 elemI, fun x => rfl⟩, by omega, fun e => by have := HO.out.2.2 _ e; omega⟩
        have := hFl j hj
        rcases hn with h | h
        · omega
        · have := HO.out.2.2 _ h; omega
      have HB0 := Lib.hid hB0
      clear hB0
      go_wp2
      clear hmm
      go_loopg [11] m (fun g s11 wx => ∃ k : Nat, k ≤ m ∧ g = m - k ∧ s11 = .int .i64 k ∧ Bes w s σ w3.heap.size m vo vc L (2 * k) (upTo σ (L.take k)) wx)
      case atStart => exact ⟨0, Nat.zero_le _, rfl, rfl, HB0.out⟩
      case round =>
        obtain ⟨j, hj, rfl, rfl, hbs⟩ := hrel
        have HBS := Lib.hid hbs
        clear hbs
        by_cases hjm : j < m
        · obtain ⟨g, rfl, hcell⟩ := row_at HBS.out.2.1 hjm (by rw [HM.out.2.1, HM.out.1])
          obtain ⟨y, hy⟩ : ∃ y, y = L.getD j 0 := ⟨_, rfl⟩
          rw [← hy] at hcell
          obtain ⟨FF, f1, f2, f3, f4⟩ := HBS.out.1
          have hsd := Sides_ok f1 (y : Int)
          have hsm := side_small HS.out.2 (y : Int)
          obtain ⟨xa, hxa⟩ : ∃ xa, xa = (nd σ (y : Int)).left := ⟨_, rfl⟩
          obtain ⟨xb, hxb⟩ : ∃ xb, xb = (nd σ (y : Int)).right := ⟨_, rfl⟩
          rw [← hxa, ← hxb] at hsd hsm
          have wfa := wf_small hsm.1.1 hsm.1.2
          have wfb := wf_small hsm.2.1 hsm.2.2
          obtain ⟨ca, hca⟩ : ∃ ca, ca = upTo σ (L.take j) xa := ⟨_, rfl⟩
          obtain ⟨cb, hcb⟩ : ∃ cb, cb = bumpF (upTo σ (L.take j)) xa xb := ⟨_, rfl⟩
          have hla : ca ≤ 131072 := by
            have := upTo_le σ xa (L.take j)
            rw [List.length_take] at this
            omega
          have hlb : cb ≤ 131073 := by
            have := upTo_le σ xb (L.take j)
            rw [List.length_take] at this
            rw [hcb]
            unfold bumpF
            split <;> omega
          have hla' : (ca : Int) ≤ 131072 := by omega
          have hlb' : (cb : Int) ≤ 131073 := by omega
          have hjl : (j : Int) < (m : Int) := by omega
          have HSD := Lib.hid hsd
          have WF := Lib.hid (And.intro wfa wfb)
          have HC := Lib.hid (And.intro hca (And.intro hcb (And.intro hxa (And.intro hxb hy))))
          clear hsd hsm wfa wfb hca hcb hxa hxb hy f1 f2 f3 f4
          go_wp2_with fail
          refine HSD.out.mono ?_; rintro e w4 ⟨rfl, hc4⟩
          have hb4 := HBS.out.adds hc4
          have HB4 := Lib.hid hb4
          have hlk := hb4.2.2.1.look WF.out.1
          rw [← HC.out.1] at hlk
          clear hc4 hb4
          go_wp2_with (first
            | (at_mapUpdate; refine wp_bumpMap HB4.out.2.2.1 (by unfold maxLen; omega) rfl _ _ _ rfl rfl xa rfl WF.out.1 _ rfl (by rw [HC.out.1]) (WalkArith.wf_i64 (by omega)) ?_; intro w5 hm5 hc5; have HB5 := Lib.hid (HB4.out.put hm5 hc5); have hlk5 := hm5.look WF.out.2; rw [← HC.out.2.1] at hlk5; clear hm5 hc5)
            | (at_mapUpdate; refine wp_bumpMap HB5.out.2.2.1 (by unfold maxLen; omega) rfl _ _ _ rfl rfl xb rfl WF.out.2 _ rfl (by rw [HC.out.2.1]) (WalkArith.wf_i64 (by omega)) ?_; intro w6 hm6 hc6; have HB6 := Lib.hid (HB5.out.put hm6 hc6); clear hm6 hc6))
          go_roundg (m - (j + 1))
          case measure => omega
          case rel =>
            refine ⟨j + 1, by omega, rfl, by go_num, ?_⟩
            obtain ⟨b1, b2, b3, b4, b5⟩ := HB6.out
            refine ⟨b1, b2, b3.cong (fun x => ?_), b4, b5⟩
            have htk : L.take (j + 1) = L.take j ++ [y] := by
              have : j < L.length := by rw [HM.out.2.1, ← HM.out.1]; exact hjm
              rw [List.take_add_one, List.getElem?_eq_getElem this, HC.out.2.2.2.2]
              simp [List.getD, this]
            rw [htk, upTo_snoc]
            unfold bumpF refs
            rw [← HC.out.2.2.1, ← HC.out.2.2.2.1]
            omega
        · obtain rfl : j = m := by omega
          have hjl : ¬ (j : Int) < (j : Int) := by omega
          have hLj : L.take j = handles σ := by
            rw [← HM.out.2.1, List.take_of_length_le (by rw [HM.out.2.1, ← HM.out.1]; exact Nat.le_refl _)]
          have hb3 : Bes w s σ w3.heap.size j vo vc L (2 * j) (sides σ) wr := by
            obtain ⟨b1, b2, b3, b4, b5⟩ := HBS.out
            exact ⟨b1, b2, b3.cong (fun x => by rw [hLj, upTo_all]), b4, b5⟩
          have HB3 := Lib.hid hb3
          clear hb3 hLj
          go_wp2
          go_loopg [14] j (fun g s14 wx => ∃ k : Nat, k ≤ j ∧ g = j - k ∧ s14 = .int .i64 k ∧ Bes w s σ w3.heap.size j vo vc L (2 * j) (sides σ) wx)
          case atStart => exact ⟨0, Nat.zero_le _, rfl, rfl, HB3.out⟩
          case round =>
            obtain ⟨q, hq, rfl, rfl, hbs⟩ := hrel
            have HBQ := Lib.hid hbs
            clear hbs
            by_cases hqm : q < j
            · obtain ⟨g, rfl, hcell⟩ := row_at HBQ.out.2.1 hqm (by rw [HM.out.2.1, HM.out.1])
              obtain ⟨y, hy⟩ : ∃ y, y = L.getD q 0 := ⟨_, rfl⟩
              rw [← hy] at hcell
              have hlive : ∃ x, σ.get? (y : Int) = some x := by
                have hlt : q < L.length := by rw [HM.out.2.1, ← HM.out.1]; exact hqm
                refine (mem_handles (σ := σ) (y : Int)).2 ⟨y, ?_, rfl⟩
                rw [← HM.out.2.1, hy]
                simp [List.getD, hlt]
              obtain ⟨x, hx⟩ := hlive
              have hsm := get_small HS.out.2.wf hx
              have hcn := HS.out.2.counts _ x hx
              have hhd := HS.out.2.held _ x hx
              obtain ⟨mm, hmy, hmm1, hne, hmlt⟩ := SlabSt.get?_some hx
              have hcx := HS.out.2.wf.counts x (List.mem_of_getElem? hmm1)
              obtain ⟨FF, f1, f2, f3, f4⟩ := HBQ.out.1
              obtain ⟨c, hc⟩ : ∃ c, c = x.2 := ⟨_, rfl⟩
              obtain ⟨sd, hsd⟩ : ∃ sd, sd = sides σ (y : Int) := ⟨_, rfl⟩
              obtain ⟨hd, hhd'⟩ : ∃ hd, hd = x.1.held := ⟨_, rfl⟩
              have hlook : ∀ w5, Adds wr w5 → (Instr.lookup 42 (.map (some w3.heap.size)) (.int .i64 (y : Int)) false).run Try.prog w5 = .ok (.int .i64 (sd : Int)) w5 := fun w5 h5 => by
                rw [hsd]; exact (HBQ.out.adds h5).2.2.1.look (wf_small (by omega) hsm.2)
              have hheld : ∀ w5, Adds wr w5 → Calls Try.prog 45 #[.pointer (some ⟨s, 0, none⟩), .int .i64 (y : Int)] w5 fun e w' => e = .returned (.int .i64 hd) ∧ Adds w5 w' := fun w5 h5 => by
                have := Held_ok (f1.adds h5) (y : Int)
                rw [nd_some hx, ← hhd'] at this
                exact this
              have hcount : ∀ w5, Adds wr w5 → Calls Try.prog 44 #[.pointer (some ⟨s, 0, none⟩), .int .i64 (y : Int)] w5 fun e w' => e = .returned (.int .i64 (c : Int)) ∧ w5 = w' := fun w5 h5 => by
                have := Count_ok (f1.adds h5) (y : Int)
                rw [count_is hx, ← hc] at this
                exact this
              rw [← hc, ← hsd, ← hhd'] at hcn
              rw [← hc] at hcx hne
              have hsum : hd + (sd : Int) = (c : Int) := by simp at hcn; omega
              have hc1 : ¬ (c : Int) < 1 := by omega
              have hcb : (c : Int) ≤ 1073741824 := by omega
              have hql : (q : Int) < (j : Int) := by omega
              have LK := Lib.hid hlook
              have HH := Lib.hid hheld
              have CT := Lib.hid hcount
              have SM := Lib.hid hsum
              have CL := Lib.hid hcell
              clear hlook hheld hcount hsum hc hsd hhd' hcn hhd hcx hne f1 f2 f3 f4 hx hsm hmm1 hy hmy hmlt
              go_upto_region 22 with fail
              refine wp_region_plan (fun w0 => w0.cell? ⟨g, q, none⟩ = some (.int .i64 (y : Int)) ∧ (Instr.lookup 42 (.map (some w3.heap.size)) (.int .i64 (y : Int)) false).run Try.prog w0 = .ok (.int .i64 (sd : Int)) w0) 29 [(0, false), (1, false), (2, false), (3, false), (4, false), (6, false), (7, false), (8, false), (9, false), (10, false), (12, false), (13, false), (14, false), (15, false), (16, false), (17, false), (5, true), (11, true), (18, false), (19, false), (20, false), (21, false), (22, false), (23, false), (24, false), (25, false), (26, true), (27, false), (28, false)] (by kernel_rfl) (by kernel_rfl) ?_ ?_
              · exact ⟨CL.out, LK.out _ ((Ch.refl _ _).drew)⟩
              iterate 16 refine plan_look rfl rfl (fun w0 hS => (by obtain ⟨s1, s2⟩ := hS; go_simp; try rfl)) ?_
              simp only [Act.put, List.setIfInBounds_toArray, List.set_cons_succ, List.set_cons_zero]
              refine plan_do rfl ?_
              go_wp2_with fail
              refine (CT.out _ ((Ch.refl _ _).drew)).mono ?_; rintro e w5 ⟨rfl, rfl⟩
              dsimp only
              go_step
              refine wpList_nil ?_
              change _ ∧ _
              refine ⟨⟨CL.out, LK.out _ ((Ch.refl _ _).drew)⟩, ?_⟩
              refine plan_do rfl ?_
              go_wp2_with fail
              refine (HH.out _ ((Ch.refl _ _).drew)).mono ?_; rintro e w6 ⟨rfl, hc6⟩
              dsimp only
              go_step
              refine wpList_nil ?_
              change _ ∧ _
              have hw6 : Adds wr w6 := (Ch.refl (fun _ => False) wr).drew.trans hc6 (fun _ h => h.elim)
              have W6 := Lib.hid hw6
              refine ⟨⟨hw6.cell CL.out id, LK.out _ hw6⟩, ?_⟩
              clear hc6 hw6
              refine plan_look (v := .int .i64 (c : Int)) rfl rfl (fun w0 hS => (by clear hS; go_simp; rw [SM.out]; exact IntWalk.i64_in _ (by omega))) ?_
              simp only [Act.put, List.setIfInBounds_toArray, List.set_cons_succ, List.set_cons_zero]
              refine plan_look (v := .bool false) rfl rfl (fun w0 hS => (by clear hS; go_simp; try rfl)) ?_
              simp only [Act.put, List.setIfInBounds_toArray, List.set_cons_succ, List.set_cons_zero]
              refine plan_look (v := .bool false) rfl rfl (fun w0 hS => (by clear hS; go_simp; try rfl)) ?_
              simp only [Act.put, List.setIfInBounds_toArray, List.set_cons_succ, List.set_cons_zero]
              iterate 5 refine plan_look rfl rfl (fun w0 hS => (by obtain ⟨s1, s2⟩ := hS; go_simp; try rfl)) ?_
              simp only [Act.put, List.setIfInBounds_toArray, List.set_cons_succ, List.set_cons_zero]
              refine plan_do rfl ?_
              go_wp2_with fail
              refine (CT.out _ W6.out).mono ?_; rintro e w7 ⟨rfl, rfl⟩
              dsimp only
              go_step
              refine wpList_nil ?_
              change _ ∧ _
              refine ⟨⟨W6.out.cell CL.out id, LK.out _ W6.out⟩, ?_⟩
              refine plan_look (v := .bool false) rfl rfl (fun w0 hS => (by clear hS; go_simp; try rfl)) ?_
              simp only [Act.put, List.setIfInBounds_toArray, List.set_cons_succ, List.set_cons_zero]
              refine plan_look (v := .bool false) rfl rfl (fun w0 hS => (by clear hS; go_simp; try rfl)) ?_
              simp only [Act.put, List.setIfInBounds_toArray, List.set_cons_succ, List.set_cons_zero]
              refine plan_end ?_; simp only [List.drop_succ_cons, List.drop_zero]
              go_wp2
              refine NoPanic.normal ?_
              go_wp2
              go_roundg (j - (q + 1))
              case measure => omega
              case rel => exact ⟨q + 1, by omega, rfl, by go_num, HBQ.out.adds W6.out⟩
            · have eq : q = j := by omega
              subst eq
              have hql : ¬ (q : Int) < (q : Int) := by omega
              have hW0 : Swp w s σ q vo vc L 0 0 σ wr := by
                obtain ⟨b1, b2, b3, b4, b5⟩ := HBQ.out
                exact ⟨b1.less (fun k hk => .inr hk), b2, HS.out.2, by have := HM.out.1; have := HM.out.2.2; omega, fun i hi => by omega, fun x y h => ⟨y, h⟩, by have := HM.out.1; have := HM.out.2.2; omega⟩
              have HW0 := Lib.hid hW0
              clear hW0
              go_wp2
              go_loopg [15, 16] q (fun g s15 s16 wx => ∃ (k : Nat) (σ' : SlabSt Nd) (fr : Int), k ≤ q ∧ g = q - k ∧ s15 = .int .i64 fr ∧ s16 = .int .i64 k ∧ Swp w s σ q vo vc L k fr σ' wx)
              case atStart => exact ⟨0, σ, 0, Nat.zero_le _, rfl, rfl, rfl, HW0.out⟩
              case round =>
                obtain ⟨p, σp, fr, hp, rfl, rfl, rfl, hsw⟩ := hrel
                have HSW := Lib.hid hsw
                clear hsw
                by_cases hpq : p < q
                · have hpl : (p : Int) < (q : Int) := by omega
                  go_wp2
                  go_loopg [15] (total σp) (fun g s15 wx => ∃ (σ' : SlabSt Nd) (f2 : Int), g = total σ' ∧ s15 = .int .i64 f2 ∧ Swp w s σ q vo vc L p f2 σ' wx)
                  case atStart => exact ⟨σp, fr, rfl, rfl, HSW.out⟩
                  case round =>
                    obtain ⟨σ', f2, rfl, rfl, hsw⟩ := hrel
                    obtain ⟨g, rfl, hcell⟩ := row_at hsw.2.1 hpq (by rw [HM.out.2.1, HM.out.1])
                    obtain ⟨y, hy⟩ : ∃ y, y = L.getD p 0 := ⟨_, rfl⟩
                    rw [← hy] at hcell
                    have hheld : Calls Try.prog 45 #[.pointer (some ⟨s, 0, none⟩), .int .i64 (y : Int)] wr fun e w' => e = .returned (.int .i64 (nd σ' (y : Int)).held) ∧ Adds wr w' := by
                      obtain ⟨⟨FF, f1, _⟩, _⟩ := hsw
                      exact Held_ok f1 (y : Int)
                    have hnn := held_nonneg hsw.2.2.1 (y : Int)
                    have hdr := fun w5 (h5 : Adds wr w5) (hx : (nd σ' (y : Int)).held ≠ 0) => (hsw.adds h5).drop (y : Int) hx
                    obtain ⟨hd, hhd⟩ : ∃ hd, hd = (nd σ' (y : Int)).held := ⟨_, rfl⟩
                    rw [← hhd] at hheld hnn hdr
                    have HHE := Lib.hid hheld
                    have HW := Lib.hid hsw
                    have HDR := Lib.hid hdr
                    have HY := Lib.hid (And.intro hy hhd)
                    clear hheld hsw hdr hy hhd
                    by_cases hz : 0 < hd
                    · go_wp2_with fail
                      refine HHE.out.mono ?_; rintro e w5 ⟨rfl, hc5⟩
                      have hcell5 := hc5.cell hcell id
                      obtain ⟨nn, hcall⟩ := HDR.out _ hc5 (by omega)
                      have HCL := Lib.hid hcall
                      have C5 := Lib.hid hc5
                      clear hcall hc5
                      go_wp2_with fail
                      refine HCL.out.mono ?_; rintro e w6 ⟨rfl, σ2, hs2, hlt⟩
                      have H2 := Lib.hid (And.intro hs2 hlt)
                      have hb1 : -131072 ≤ f2 + nn ∧ f2 + nn ≤ 131072 := by
                        have := hs2.2.2.2.1
                        have := hs2.2.2.2.2.2.2
                        omega
                      obtain ⟨hb1, hb2⟩ := hb1
                      clear hs2 hlt
                      go_wp2
                      go_roundg (total σ2)
                      case measure => exact H2.out.2
                      case rel => exact ⟨σ2, f2 + nn, rfl, by go_num, H2.out.1⟩
                    · have hz0 : hd = 0 := by omega
                      subst hz0
                      go_wp2_with fail
                      refine HHE.out.mono ?_; rintro e w5 ⟨rfl, hc5⟩
                      have C5 := Lib.hid hc5
                      clear hc5
                      go_wp2
                      go_roundg (q - (p + 1))
                      case measure => omega
                      case rel =>
                        refine ⟨p + 1, σ', f2, by omega, rfl, rfl, by go_num, ?_⟩
                        obtain ⟨b1, b2, b3, b4, b5, b6, b7⟩ := HW.out.adds C5.out
                        refine ⟨b1, b2, b3, b4, fun i hi => ?_, b6, b7⟩
                        by_cases hip : i < p
                        · exact b5 i hip
                        · obtain rfl : i = p := by omega
                          rw [← HY.out.1, ← HY.out.2]
                          exact Int.le_refl _
                · have ep : p = q := by omega
                  subst ep
                  have hpl : ¬ (p : Int) < (p : Int) := by omega
                  have hlive : live σp = 0 := by
                    obtain ⟨b1, b2, b3, b4, b5, b6, b7⟩ := HSW.out
                    refine b3.empty fun x y hxy => ?_
                    obtain ⟨z, hz⟩ := b6 x y hxy
                    obtain ⟨mm, hmm1, rfl⟩ := (mem_handles (σ := σ) x).1 ⟨z, hz⟩
                    rw [← HM.out.2.1] at hmm1
                    obtain ⟨i, hi, hie⟩ := List.getElem_of_mem hmm1
                    have hip : i < p := by rw [HM.out.1, ← HM.out.2.1]; exact hi
                    have h9 := b5 i hip
                    have hg : L.getD i 0 = mm := by simp [List.getD, hi, hie]
                    rw [hg, nd_some hxy] at h9
                    exact h9
                  have hfr : fr = (p : Int) := by
                    obtain ⟨b1, b2, b3, b4, b5, b6, b7⟩ := HSW.out
                    omega
                  have hus : σp.used = 0 := by rw [live_used HSW.out.2.2.1.wf]; exact hlive
                  have hoc : Calls Try.prog 35 #[.pointer (some ⟨s, 0, none⟩)] wr fun e w' => e = .returned (.int .i64 0) ∧ wr = w' := by
                    obtain ⟨⟨FF, f1, _⟩, _⟩ := HSW.out
                    have := Occupied_ok f1
                    rw [hus] at this
                    exact this
                  have hAd := HSW.out.1.world
                  have OC := Lib.hid hoc
                  have AD := Lib.hid hAd
                  subst hfr
                  clear hlive hus hoc hAd
                  go_wp2_with fail
                  refine OC.out.mono ?_; rintro e w8 ⟨rfl, rfl⟩
                  go_wp2
                  go_ret
                  exact ⟨rfl, AD.out⟩

end Go.Proofs.Ytdgdpbmaalcedaa.Law7

/- versions: what they are in memory; the contracts of New, none, Root, Len, hold, drop, Add, Drop. -/
import Derived.Test.YtfllneenonhonaaNameM
import Derived.Test.YtfllneenonhonaaName14
import Derived.Test.YtfllneenonhonaaRoots
namespace Go.Proofs.Ytfllneenonhonaa.Store
open Go Go.RowKit Go.Proofs.Ytfllneenonhonaa Go.Proofs.Ytfllneenonhonaa.ShaW Go.Proofs.Ytfllneenonhonaa.Path
set_option maxHeartbeats 1600000
set_option linter.unusedVariables false

theorem Ow.beside {w0 w w' : World} {s : Nat} {σ : SlabSt Nd} {G C : Nat → Prop} (h : Ow w0 w s σ G) (hc : Ch C w w') (hC : ∀ k, C k → G k ∧ w0.heap.size ≤ k) : Ow w0 w' s σ G := by
  obtain ⟨F, h1, h2, h3, h4⟩ := h
  exact ⟨F, h1.keep hc (fun k hf hc => (h4 k (hC k hc).1).1 hf), h2, h3.trans hc (fun k hk => .inr (hC k hk).2), fun k hk => ⟨(h4 k hk).1, Nat.lt_of_lt_of_le (h4 k hk).2 hc.size⟩⟩
theorem map_not_nil (m : Nat) (w : World) : (binOp .eql 122 (.map (some m)) (.map none)).run Try.prog w = .ok (.bool false) w := by kernel_rfl
def Vfoot (v m : Nat) (G : Nat → Prop) : Nat → Prop := fun k => k = v ∨ k = m ∨ G k
/-- Versions in memory: their store, their names. -/
structure Vs (w0 w : World) (v s : Nat) (σ : SlabSt Nd) (ν : Nms) (G : Nat → Prop) : Prop where
  ex : ∃ m, Ow w0 w s σ (Vfoot v m G) ∧ w.heap[v]? = some (.cells #[.pointer (some ⟨s, 0, none⟩), .map (some m)] 124 (0, 0)) ∧ NamesAt w m ν.length ν ∧ w0.heap.size ≤ m ∧ v ≠ m ∧ ¬ G v ∧ ¬ G m
theorem NamesAt.tight {w : World} {b n : Nat} {ν : Nms} (h : NamesAt w b n ν) : NamesAt w b ν.length ν := by
  obtain ⟨⟨D, ⟨es, clock, hb, F, hs, hD⟩, h1, h2⟩, h3, h4⟩ := h
  have : es.size = ν.length := by
    rw [← h1, hD]
    simp [Maps.size, length_sorted]
  exact ⟨⟨D, ⟨es, clock, hb, F, Nat.le_of_eq this, hD⟩, h1, h2⟩, h3, h4⟩
section
variable {w0 w w' : World} {v s : Nat} {σ σ' : SlabSt Nd} {ν : Nms} {G : Nat → Prop}
theorem Vs.adds (h : Vs w0 w v s σ ν G) (a : Adds w w') : Vs w0 w' v s σ ν G := by
  obtain ⟨m, h1, h2, h3, h4⟩ := h
  exact ⟨m, h1.adds a, a.row h2 id, h3.keep a id, h4⟩
theorem Vs.world (h : Vs w0 w v s σ ν G) : Adds w0 w := by obtain ⟨m, h1, _⟩ := h; exact h1.world
theorem Vs.ow (h : Vs w0 w v s σ ν G) : Ow w0 w s σ G := by obtain ⟨m, h1, _⟩ := h; exact h1.less (fun k hk => .inr (.inr hk))
theorem Vs.beside {C : Nat → Prop} (h : Vs w0 w v s σ ν G) (hc : Ch C w w') (hC : ∀ k, C k → G k ∧ w0.heap.size ≤ k) : Vs w0 w' v s σ ν G := by
  obtain ⟨m, h1, h2, h3, h4, h5, h6, h7⟩ := h
  exact ⟨m, h1.beside hc (fun k hk => ⟨.inr (.inr (hC k hk).1), (hC k hk).2⟩), hc.row h2 (fun hk => h6 (hC _ hk).1), h3.keep hc (fun hk => h7 (hC _ hk).1), h4, h5, h6, h7⟩
theorem Vs.less {G' : Nat → Prop} (h : Vs w0 w v s σ ν G) (hG : ∀ k, G' k → G k) : Vs w0 w v s σ ν G' := by
  obtain ⟨m, h1, h2, h3, h4, h5, h6, h7⟩ := h
  exact ⟨m, h1.less (fun k hk => hk.imp id (fun h => h.imp id (hG k))), h2, h3, h4, h5, fun h => h6 (hG _ h), fun h => h7 (hG _ h)⟩
theorem Vs.more {G' : Nat → Prop} (h : Vs w0 w v s σ ν G) (a : Adds w w') (hG : ∀ k, G' k → G k ∨ (w.heap.size ≤ k ∧ k < w'.heap.size)) : Vs w0 w' v s σ ν G' := by
  obtain ⟨m, h1, h2, h3, h4, h5, h6, h7⟩ := h
  have hv := row_lt h2
  have hm := h3.lt
  refine ⟨m, h1.more a (fun k hk => ?_), a.row h2 id, h3.keep a id, h4, h5, fun h => ?_, fun h => ?_⟩
  · rcases hk with h | h | h
    · exact .inl (.inl h)
    · exact .inl (.inr (.inl h))
    · exact (hG k h).imp (fun h => .inr (.inr h)) id
  · rcases hG _ h with h | h
    · exact h6 h
    · omega
  · rcases hG _ h with h | h
    · exact h7 h
    · omega
/-- Behind a call of the store. -/
theorem Vs.moved {m : Nat} (h1 : Ow w0 w' s σ' (Vfoot v m G)) (hb : But (Vfoot v m G) w w') (h2 : w.heap[v]? = some (.cells #[.pointer (some ⟨s, 0, none⟩), .map (some m)] 124 (0, 0))) (h3 : NamesAt w m ν.length ν)
    (h4 : w0.heap.size ≤ m ∧ v ≠ m ∧ ¬ G v ∧ ¬ G m) : Vs w0 w' v s σ' ν G ∧ But G w w' :=
  ⟨⟨m, h1, hb.row h2 (.inl rfl), h3.keep hb (fun h => h (.inr (.inl rfl))), h4⟩, hb.mono (fun k _ hk hg => hk (.inr (.inr hg)))⟩
/-- A call of the store itself, the versions beside it. -/
theorem Vs.step (h : Vs w0 w v s σ ν G) : ∃ m, Ow w0 w s σ (Vfoot v m G) ∧ ∀ {w' : World} {σ' : SlabSt Nd}, Ow w0 w' s σ' (Vfoot v m G) → But (Vfoot v m G) w w' → Vs w0 w' v s σ' ν G ∧ But G w w' := by
  obtain ⟨m, h1, h2, h3, h4⟩ := h
  exact ⟨m, h1, fun ho hb => Vs.moved ho hb h2 h3 h4⟩
set_option maxRecDepth 100000 in
theorem Vs.none_no (h : Vs w0 w v s σ ν G) : Calls Try.prog 72 #[.pointer (some ⟨v, 0, none⟩)] w fun e w' => e = .returned (.bool false) ∧ w = w' := by
  obtain ⟨m, h1, h2, h3, h4⟩ := h
  have c1 := row_cell h2 (i := 1) rfl
  have hq := map_not_nil m
  clear h1 h2 h3 h4
  go_enter Try.func72, Try.ntmps72
  go_wp2
  go_ret
  exact ⟨rfl, rfl⟩
set_option maxRecDepth 100000 in
theorem Vs.root (h : Vs w0 w v s σ ν G) {x : List UInt8} (hx : x.length ≤ maxLen) :
    Calls Try.prog 40 #[.pointer (some ⟨v, 0, none⟩), .string (bstr x)] w fun e w' => e = .returned (if x ∈ ν.names then .tuple #[.int .i64 (ν.get x), .int .i64 0] else .tuple #[.int .i64 0, .int .i64 7]) ∧ w = w' := by
  have hn := h.none_no
  obtain ⟨m, h1, h2, h3, h4⟩ := h
  have c1 := row_cell h2 (i := 1) rfl
  have hlk := h3.look hx
  obtain ⟨c, hc⟩ : ∃ c, c = ν.get x := ⟨_, rfl⟩
  obtain ⟨S, hS⟩ : ∃ S, S = bstr x := ⟨_, rfl⟩
  rw [← hc] at hlk ⊢
  rw [← hS] at hlk ⊢
  have HN := Lib.hid hn
  by_cases hm : x ∈ ν.names
  · rw [if_pos hm]
    rw [decide_eq_true hm] at hlk
    clear hn h1 h2 h3 h4 hm hx hc hS
    go_enter Try.func40, Try.ntmps40
    go_wp2_with fail
    refine HN.out.mono ?_; rintro e w1 ⟨rfl, rfl⟩
    go_wp2
    go_ret2
    exact ⟨rfl, rfl⟩
  · rw [if_neg hm]
    rw [decide_eq_false hm] at hlk
    clear hn h1 h2 h3 h4 hm hx hc hS
    go_enter Try.func40, Try.ntmps40
    go_wp2_with fail
    refine HN.out.mono ?_; rintro e w1 ⟨rfl, rfl⟩
    go_wp2
    go_ret2
    exact ⟨rfl, rfl⟩
set_option maxRecDepth 100000 in
theorem Vs.len (h : Vs w0 w v s σ ν G) : Calls Try.prog 44 #[.pointer (some ⟨v, 0, none⟩)] w fun e w' => e = .returned (.int .i64 (ν.length : Nat)) ∧ w = w' := by
  have hn := h.none_no
  obtain ⟨m, h1, h2, h3, h4⟩ := h
  have c1 := row_cell h2 (i := 1) rfl
  have hlk := h3.count
  obtain ⟨c, hc⟩ : ∃ c, c = ν.length := ⟨_, rfl⟩
  rw [← hc] at hlk ⊢
  have HN := Lib.hid hn
  clear hn h1 h2 h3 h4 hc
  go_enter Try.func44, Try.ntmps44
  go_wp2_with fail
  refine HN.out.mono ?_; rintro e w1 ⟨rfl, rfl⟩
  go_wp2
  go_ret
  exact ⟨rfl, rfl⟩
def holdV (σ : SlabSt Nd) (root : Int) : SlabSt Nd := if root = 0 then σ else (holdS σ root).2
def dropV (σ : SlabSt Nd) (root : Int) : SlabSt Nd := if root = 0 then σ else (dropS σ root).2.2
set_option maxRecDepth 100000 in
theorem Vs.hold (h : Vs w0 w v s σ ν G) (root : Int) (hok : root ≠ 0 → (holdS σ root).1 = 0) :
    Calls Try.prog 73 #[.pointer (some ⟨v, 0, none⟩), .int .i64 root] w fun e w' => e = .returned (.int .i64 0) ∧ Vs w0 w' v s (holdV σ root) ν G ∧ But G w w' := by
  by_cases h0 : root = 0
  · subst h0
    have H := Lib.hid h
    clear h hok
    go_enter Try.func73, Try.ntmps73
    go_wp2
    go_ret
    exact ⟨rfl, H.out, Ch.refl _ _⟩
  · have hb : holdV σ root = (holdS σ root).2 := by unfold holdV; rw [if_neg h0]
    have hc := hok h0
    obtain ⟨m, h1, h2, h3, h4⟩ := h
    have c0 := row_cell h2 (i := 0) rfl
    have ho := h1.hold root
    rw [hc, ← hb] at ho
    have hx : ¬ root = 0 := h0
    have hxd : decide (root = 0) = false := decide_eq_false h0
    have HO := Lib.hid ho
    have HV := Lib.hid (And.intro h2 (And.intro h3 h4))
    clear h1 h2 h3 h4 ho hb hc hok h0
    go_enter Try.func73, Try.ntmps73
    go_wp2_with fail
    refine HO.out.mono ?_; rintro e w1 ⟨rfl, o1, b1⟩
    have H1 := Lib.hid (Vs.moved o1 b1 HV.out.1 HV.out.2.1 HV.out.2.2)
    clear o1 b1 c0
    go_wp2
    go_ret
    exact ⟨rfl, H1.out⟩
set_option maxRecDepth 100000 in
theorem Vs.drop (h : Vs w0 w v s σ ν G) (root : Int) :
    Calls Try.prog 83 #[.pointer (some ⟨v, 0, none⟩), .int .i64 root] w fun e w' => e = .returned (.int .i64 (if root = 0 then 0 else (dropS σ root).1)) ∧ Vs w0 w' v s (dropV σ root) ν G ∧ But G w w' := by
  by_cases h0 : root = 0
  · subst h0
    have H := Lib.hid h
    clear h
    go_enter Try.func83, Try.ntmps83
    go_wp2
    go_ret
    exact ⟨rfl, H.out, Ch.refl _ _⟩
  · have hb : dropV σ root = (dropS σ root).2.2 := by unfold dropV; rw [if_neg h0]
    rw [if_neg h0]
    obtain ⟨m, h1, h2, h3, h4⟩ := h
    have c0 := row_cell h2 (i := 0) rfl
    have ho := h1.drop root
    rw [← hb] at ho
    obtain ⟨n, hn⟩ : ∃ n, n = (dropS σ root).1 := ⟨_, rfl⟩
    obtain ⟨n2, hn2⟩ : ∃ n, n = (dropS σ root).2.1 := ⟨_, rfl⟩
    rw [← hn, ← hn2] at ho
    rw [← hn]
    have hx : ¬ root = 0 := h0
    have hxd : decide (root = 0) = false := decide_eq_false h0
    have HO := Lib.hid ho
    have HV := Lib.hid (And.intro h2 (And.intro h3 h4))
    clear h1 h2 h3 h4 ho hb hn hn2 h0
    go_enter Try.func83, Try.ntmps83
    go_wp2_with fail
    refine HO.out.mono ?_; rintro e w1 ⟨rfl, o1, b1⟩
    have H1 := Lib.hid (Vs.moved o1 b1 HV.out.1 HV.out.2.1 HV.out.2.2)
    clear o1 b1 c0
    go_wp2
    go_ret
    exact ⟨rfl, H1.out⟩
/-- Why a name may not be added. -/
def addErr (σ : SlabSt Nd) (ν : Nms) (x : List UInt8) (root : Int) : Int := if nameB x = false then 5 else if rootErr σ root ≠ 0 then rootErr σ root else if x ∈ ν.names then 6 else if 16 ≤ ν.length then 8 else 0
theorem name_len {x : List UInt8} (h : nameB x = true) : x.length ≤ maxLen := by
  have := (nameB_iff.1 h).1
  unfold maxLen
  omega
theorem Name_is (x : List UInt8) (hx : x.length ≤ maxLen) (w : World) : Calls Try.prog 36 #[.string (bstr x)] w fun e w' => e = .returned (.bool (nameB x)) ∧ w = w' := by
  have := Name_ok (bstr x) (by rw [bstr_size]; exact hx) w
  rw [bstr_data] at this
  exact this.mono fun e w' ⟨h1, h2⟩ => ⟨h1, h2.symm⟩
set_option maxRecDepth 100000 in
theorem Vs.addNo (h : Vs w0 w v s σ ν G) {x : List UInt8} (hx : x.length ≤ maxLen) (root : Int) (hc : addErr σ ν x root ≠ 0) :
    Calls Try.prog 34 #[.pointer (some ⟨v, 0, none⟩), .string (bstr x), .int .i64 root] w fun e w' => e = .returned (.int .i64 (addErr σ ν x root)) ∧ Adds w w' := by
  have hn := h.none_no
  obtain ⟨m, h1, h2, h3, h4⟩ := h
  have c0 := row_cell h2 (i := 0) rfl
  have c1 := row_cell h2 (i := 1) rfl
  have hlk := h3.look hx
  have hct := fun w1 (a : Adds w w1) => (h3.keep a id).count
  have hnm := Name_is x hx
  obtain ⟨F, hF⟩ := h1.at
  have hrt := Store.Root_ok hF root
  have k1 := fun w1 (a : Adds w w1) => row_cell (a.row h2 id) (i := 1) rfl
  unfold addErr at hc ⊢
  obtain ⟨c, hcc⟩ : ∃ c, c = ν.get x := ⟨_, rfl⟩
  obtain ⟨S, hS⟩ : ∃ S, S = bstr x := ⟨_, rfl⟩
  obtain ⟨re, hre⟩ : ∃ re, re = rootErr σ root := ⟨_, rfl⟩
  obtain ⟨nb, hnb⟩ : ∃ nb, nb = nameB x := ⟨_, rfl⟩
  obtain ⟨len, hlen⟩ : ∃ len, len = ν.length := ⟨_, rfl⟩
  rw [← hcc] at hlk
  rw [← hS] at hlk hnm ⊢
  rw [← hre] at hrt hc ⊢
  rw [← hnb] at hnm hc ⊢
  rw [← hlen] at hct hc ⊢
  have HN := Lib.hid hn
  have HNM := Lib.hid hnm
  have HRT := Lib.hid hrt
  have HCT := Lib.hid (And.intro hct k1)
  clear hn h1 h2 h3 h4 hx hcc hS hre hnb hnm hF hrt hct k1 hlen
  obtain ⟨there, hth⟩ : ∃ b, b = decide (x ∈ ν.names) := ⟨_, rfl⟩
  rw [← hth] at hlk
  cases nb with
  | false =>
    clear hc hth
    rw [if_pos rfl]
    go_enter Try.func34, Try.ntmps34
    go_wp2_with fail
    refine HN.out.mono ?_; rintro e w1 ⟨rfl, rfl⟩
    go_wp2_with fail
    refine HRT.out.mono ?_; rintro e w2 ⟨rfl, a2⟩
    have A2 := Lib.hid a2
    clear a2
    go_wp2_with fail
    refine (HNM.out _).mono ?_; rintro e w3 ⟨rfl, rfl⟩
    go_wp2
    go_ret
    exact ⟨rfl, A2.out⟩
  | true =>
    rw [if_neg (by decide)] at hc ⊢
    by_cases hr0 : re = 0
    · subst hr0
      rw [if_neg (by decide)] at hc ⊢
      by_cases hin : x ∈ ν.names
      · rw [if_pos hin]
        rw [decide_eq_true hin] at hth
        subst hth
        clear hc hin
        go_enter Try.func34, Try.ntmps34
        go_wp2_with fail
        refine HN.out.mono ?_; rintro e w1 ⟨rfl, rfl⟩
        go_wp2_with fail
        refine HRT.out.mono ?_; rintro e w2 ⟨rfl, a2⟩
        have A2 := Lib.hid a2
        clear a2
        go_wp2_with fail
        refine (HNM.out _).mono ?_; rintro e w3 ⟨rfl, rfl⟩
        go_wp2
        go_ret
        exact ⟨rfl, A2.out⟩
      · rw [if_neg hin] at hc ⊢
        rw [decide_eq_false hin] at hth
        subst hth
        have h16 : 16 ≤ len := by
          by_cases e : 16 ≤ len
          · exact e
          · rw [if_neg e] at hc; exact absurd rfl hc
        rw [if_pos h16]
        have h16d : decide ((16 : Int) ≤ (len : Int)) = true := decide_eq_true (by omega)
        have h16e : decide (16 ≤ len) = true := decide_eq_true h16
        clear hc hin h16
        go_enter Try.func34, Try.ntmps34
        go_wp2_with fail
        refine HN.out.mono ?_; rintro e w1 ⟨rfl, rfl⟩
        go_wp2_with fail
        refine HRT.out.mono ?_; rintro e w2 ⟨rfl, a2⟩
        have A2 := Lib.hid a2
        have hcn := HCT.out.1 _ a2
        have d1 := HCT.out.2 _ a2
        clear a2
        go_wp2_with fail
        refine (HNM.out _).mono ?_; rintro e w3 ⟨rfl, rfl⟩
        go_wp2
        go_ret
        exact ⟨rfl, A2.out⟩
    · rw [if_pos hr0]
      have hrn : (re != 0) = true := by simpa using hr0
      have hrn' : (re == 0) = false := by simpa using hr0
      have hrd : decide (re = 0) = false := decide_eq_false hr0
      clear hc hth
      go_enter Try.func34, Try.ntmps34
      go_wp2_with fail
      refine HN.out.mono ?_; rintro e w1 ⟨rfl, rfl⟩
      go_wp2_with fail
      refine HRT.out.mono ?_; rintro e w2 ⟨rfl, a2⟩
      have A2 := Lib.hid a2
      clear a2
      go_wp2_with fail
      refine (HNM.out _).mono ?_; rintro e w3 ⟨rfl, rfl⟩
      go_wp2
      go_ret
      exact ⟨rfl, A2.out⟩
set_option maxRecDepth 100000 in
theorem Vs.add (h : Vs w0 w v s σ ν G) {x : List UInt8} (hx : x.length ≤ maxLen) {root : Int} (hc : addErr σ ν x root = 0) (hh : root ≠ 0 → (holdS σ root).1 = 0) (hwf : (Lit.int .i64 root).wf = true) :
    Calls Try.prog 34 #[.pointer (some ⟨v, 0, none⟩), .string (bstr x), .int .i64 root] w fun e w' => e = .returned (.int .i64 0) ∧ Vs w0 w' v s (holdV σ root) (ν.set x root) G ∧ But G w w' := by
  have hnm1 : nameB x = true := by
    cases e : nameB x with
    | true => rfl
    | false => unfold addErr at hc; rw [if_pos e] at hc; exact absurd hc (by decide)
  have hre1 : rootErr σ root = 0 := by
    by_cases e : rootErr σ root = 0
    · exact e
    · unfold addErr at hc; rw [if_neg (by rw [hnm1]; decide), if_pos e] at hc; exact absurd hc e
  have hin : x ∉ ν.names := fun e => by
    unfold addErr at hc; rw [if_neg (by rw [hnm1]; decide), if_neg (by simpa using hre1), if_pos e] at hc; exact absurd hc (by decide)
  have h16 : ¬ 16 ≤ ν.length := fun e => by
    unfold addErr at hc; rw [if_neg (by rw [hnm1]; decide), if_neg (by simpa using hre1), if_neg hin, if_pos e] at hc; exact absurd hc (by decide)
  have hn := h.none_no
  have hhold := fun w1 (a : Adds w w1) => (h.adds a).hold root hh
  obtain ⟨m, h1, h2, h3, h4⟩ := h
  have c0 := row_cell h2 (i := 0) rfl
  have c1 := row_cell h2 (i := 1) rfl
  have hlk := h3.look hx
  rw [decide_eq_false hin] at hlk
  have hct := fun w1 (a : Adds w w1) => (h3.keep a id).count
  have hnm := Name_is x hx
  rw [hnm1] at hnm
  obtain ⟨F, hF⟩ := h1.at
  have hrt := Store.Root_ok hF root
  rw [hre1] at hrt
  have k1 := fun w1 (a : Adds w w1) => row_cell (a.row h2 id) (i := 1) rfl
  obtain ⟨c, hcc⟩ : ∃ c, c = ν.get x := ⟨_, rfl⟩
  obtain ⟨S, hS⟩ : ∃ S, S = bstr x := ⟨_, rfl⟩
  obtain ⟨len, hlen⟩ : ∃ len, len = ν.length := ⟨_, rfl⟩
  rw [← hcc] at hlk
  rw [← hS] at hlk hnm ⊢
  rw [← hlen] at hct
  have h16d : decide ((16 : Int) ≤ (len : Int)) = false := decide_eq_false (by omega)
  have h16e : decide (16 ≤ len) = false := decide_eq_false (by omega)
  have hput := fun w1 m1 (hq : NamesAt w1 m1 ν.length ν) => hq.put (by unfold maxLen; omega) hx hwf
  rw [← hS] at hput
  have HN := Lib.hid hn
  have HNM := Lib.hid hnm
  have HRT := Lib.hid hrt
  have HCT := Lib.hid (And.intro hct k1)
  have HH := Lib.hid hhold
  have HPUT := Lib.hid hput
  clear hn h1 h2 h3 h4 hx hcc hS hnm hF hrt hct k1 hlen hc hh hwf hnm1 hre1 hin h16 hhold hput
  go_enter Try.func34, Try.ntmps34
  go_wp2_with fail
  refine HN.out.mono ?_; rintro e w1 ⟨rfl, rfl⟩
  go_wp2_with fail
  refine HRT.out.mono ?_; rintro e w2 ⟨rfl, a2⟩
  have A2 := Lib.hid a2
  have hcn := HCT.out.1 _ a2
  have d1 := HCT.out.2 _ a2
  clear a2
  go_wp2_with fail
  refine (HNM.out _).mono ?_; rintro e w3 ⟨rfl, rfl⟩
  go_wp2_with fail
  refine (HH.out _ A2.out).mono ?_; rintro e w4 ⟨rfl, h4, b4⟩
  have B4 := Lib.hid b4
  obtain ⟨m4, g1, g2, g3, g4, g5, g6, g7⟩ := h4
  obtain ⟨w5, hup, n5, ch5⟩ := HPUT.out _ _ g3
  have e1 := row_cell g2 (i := 1) rfl
  have ch5' : Ch (fun k => k = m4) w4 w5 := ch5
  have H5 : RowKit.Hid (Vs w0 w5 v s (holdV σ root) (ν.set x root) G ∧ But G w w5) := Lib.hid
    ⟨⟨m4, g1.beside ch5 (fun k hk => by obtain rfl : k = m4 := hk; exact ⟨.inr (.inl rfl), g4⟩), ch5.row g2 (fun e => g5 e), n5.tight, g4, g5, g6, g7⟩,
      (A2.out.but.then B4.out).then (ch5.mono (fun k _ hk hg => by obtain rfl : k = m4 := hk; exact g7 hg))⟩
  clear b4 g1 g2 g3 g4 g5 g6 g7 n5 ch5 ch5' c0 c1 d1 hlk hcn h16d h16e
  go_wp2
  go_ret
  exact ⟨rfl, H5.out⟩
set_option maxRecDepth 100000 in
theorem Vs.cut (h : Vs w0 w v s σ ν G) {x : List UInt8} (hx : x.length ≤ maxLen) (hin : x ∈ ν.names) {root : Int} (hr : ν.get x = root) :
    Calls Try.prog 42 #[.pointer (some ⟨v, 0, none⟩), .string (bstr x)] w fun e w' => e = .returned (.tuple #[.int .i64 (if root = 0 then 0 else (dropS σ root).1), .int .i64 0]) ∧ Vs w0 w' v s (dropV σ root) (ν.cut x) G ∧ But G w w' := by
  have hrt := h.root hx
  rw [if_pos hin, hr] at hrt
  obtain ⟨m, h1, h2, h3, h4, h5, h6, h7⟩ := h
  have c1 := row_cell h2 (i := 1) rfl
  obtain ⟨w2, hdel, n2, ch2⟩ := h3.drop hx 0
  have hV2 : Vs w0 w2 v s σ (ν.cut x) G := ⟨m, h1.beside ch2 (fun k hk => by obtain rfl : k = m := hk; exact ⟨.inr (.inl rfl), h4⟩), ch2.row h2 (fun e => h5 e), n2.tight, h4, h5, h6, h7⟩
  have hB2 : But G w w2 := ch2.mono (fun k _ hk hg => by obtain rfl : k = m := hk; exact h7 hg)
  have hdr := hV2.drop root
  obtain ⟨S, hS⟩ : ∃ S, S = bstr x := ⟨_, rfl⟩
  rw [← hS] at hrt hdel ⊢
  obtain ⟨n, hn⟩ : ∃ n : Int, n = if root = 0 then 0 else (dropS σ root).1 := ⟨_, rfl⟩
  rw [← hn] at hdr ⊢
  have HRT := Lib.hid hrt
  have HDR := Lib.hid hdr
  have HB := Lib.hid hB2
  clear hrt h1 h2 h3 h4 h5 h6 h7 n2 ch2 hV2 hB2 hdr hS hn hx hin hr
  go_enter Try.func42, Try.ntmps42
  go_wp2_with fail
  refine HRT.out.mono ?_; rintro e w1 ⟨rfl, rfl⟩
  go_wp2_with fail
  refine HDR.out.mono ?_; rintro e w3 ⟨rfl, v3, b3⟩
  have H3 := Lib.hid (And.intro v3 (HB.out.then b3))
  clear v3 b3 c1 hdel
  go_wp2
  go_ret2
  exact ⟨rfl, H3.out⟩
set_option maxRecDepth 100000 in
theorem Vs.cutNo (h : Vs w0 w v s σ ν G) {x : List UInt8} (hx : x.length ≤ maxLen) (hin : x ∉ ν.names) :
    Calls Try.prog 42 #[.pointer (some ⟨v, 0, none⟩), .string (bstr x)] w fun e w' => e = .returned (.tuple #[.int .i64 0, .int .i64 7]) ∧ w = w' := by
  have hrt := h.root hx
  rw [if_neg hin] at hrt
  have HRT := Lib.hid hrt
  obtain ⟨S, hS⟩ : ∃ S, S = bstr x := ⟨_, rfl⟩
  rw [← hS] at HRT ⊢
  clear h hrt hx hin hS
  go_enter Try.func42, Try.ntmps42
  go_wp2_with fail
  refine HRT.out.mono ?_; rintro e w1 ⟨rfl, rfl⟩
  go_wp2
  go_ret2
  exact ⟨rfl, rfl⟩
set_option maxRecDepth 100000 in
theorem VNew_ok (h : Ow w0 w s σ G) (hr : 1 ≤ σ.room) : Calls Try.prog 37 #[.pointer (some ⟨s, 0, none⟩)] w fun e w' => ∃ v, e = .returned (.tuple #[.pointer (some ⟨v, 0, none⟩), .int .i64 0]) ∧ Vs w0 w' v s σ [] G ∧ Adds w w' ∧ w.heap.size ≤ v := by
  obtain ⟨F, hF⟩ := h.at
  have hrm := Room_ok hF
  obtain ⟨rm, hrm'⟩ : ∃ rm, rm = σ.room := ⟨_, rfl⟩
  rw [← hrm'] at hrm hr
  have hx : ¬ (rm : Int) = 0 := by omega
  have hxd : decide ((rm : Int) = 0) = false := decide_eq_false hx
  have hxe : decide (rm = 0) = false := decide_eq_false (by omega)
  have hmm := @run_makeMap Try.prog
  obtain ⟨w1, hw1⟩ : ∃ w1, w1 = w.alloc (.map #[] 0) := ⟨_, rfl⟩
  obtain ⟨w2, hw2⟩ : ∃ w2, w2 = w1.alloc (.cells #[.pointer (some ⟨s, 0, none⟩), .map (some w.heap.size)] 124) := ⟨_, rfl⟩
  have a1 : Adds w w1 := by rw [hw1]; exact (Ch.refl _ _).alloc _
  have a2 : Adds w1 w2 := by rw [hw2]; exact (Ch.refl _ _).alloc _
  have s1 : w1.heap.size = w.heap.size + 1 := by rw [hw1]; simp
  have s2 : w2.heap.size = w1.heap.size + 1 := by rw [hw2]; simp
  have hG : ∀ k, G k → k < w.heap.size := by obtain ⟨_, _, _, _, h4⟩ := h; exact fun k hk => (h4 k hk).2
  have hn : NamesAt w1 w.heap.size 0 [] := by rw [hw1]; exact NamesAt.made w
  have hw0 := h.world.size
  have hV : Vs w0 w2 w1.heap.size s σ [] G := by
    refine ⟨w.heap.size, h.more (a1.trans a2 (fun _ h => h.elim)) (fun k hk => ?_), by rw [hw2]; exact heap_alloc_new _ _, (hn.keep a2 id), hw0, by omega, fun h => by have := hG _ h; omega, fun h => by have := hG _ h; omega⟩
    rcases hk with h | h | h
    · right; omega
    · right; omega
    · exact .inl h
  have HV := Lib.hid (And.intro hV (And.intro (a1.trans a2 (fun _ h => h.elim)) (show w.heap.size ≤ w1.heap.size by omega)))
  have HRM := Lib.hid hrm
  have HW1 := Lib.hid hw1
  have HW2 := Lib.hid hw2
  clear h hF hrm hrm' hr a1 a2 s1 s2 hG hn hw0 hV hw1 hw2
  go_enter Try.func37, Try.ntmps37
  go_wp2_with fail
  refine HRM.out.mono ?_; rintro e w3 ⟨rfl, rfl⟩
  go_wp2_with fail
  rw [← HW1.out]
  go_ret2
  rw [← HW2.out]
  first
    | exact ⟨_, rfl, HV.out⟩
    | (refine ⟨w1.heap.size, ?_, HV.out⟩; rw [HW1.out]; simp)
end
end Go.Proofs.Ytfllneenonhonaa.Store

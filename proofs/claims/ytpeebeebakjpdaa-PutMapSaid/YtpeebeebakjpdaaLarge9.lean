/- Layer 9's statements: which writes are gone through. -/
import Derived.Test.YtpeebeebakjpdaaAwake9
import Derived.Test.YtpeebeebakjpdaaPutI
import Derived.Deep.LoopGhost
namespace Go.Proofs.Ytpeebeebakjpdaa.Law9
open Go Go.RowKit Go.Proofs.Ytpeebeebakjpdaa Go.Proofs.Ytpeebeebakjpdaa.ShaW Go.Proofs.Ytpeebeebakjpdaa.Path Go.Proofs.Ytpeebeebakjpdaa.Store
set_option maxHeartbeats 1600000
set_option linter.unusedVariables false

theorem PartAt.cellAt {w : World} {g o : Nat} {cs : Array Value} {i : Nat} {v : Value} (h : PartAt w g o cs) (hi : cs[i]? = some v) : w.cell? ⟨g, o + i, none⟩ = some v := by
  obtain ⟨cur, t, fr, h1, h2, h3⟩ := h
  refine row_cell h1 ?_
  rw [← h3] at hi
  have hlt := (Array.getElem?_eq_some_iff.1 hi).1
  rw [Array.getElem?_extract] at hi
  simp at hi
  exact hi.2
theorem extract_get {cur cs : Array Value} {o i : Nat} {v : Value} (h3 : cur.extract o (o + cs.size) = cs) (hi : cs[i]? = some v) : cur[o + i]? = some v := by
  rw [← h3, Array.getElem?_extract] at hi
  simp at hi
  exact hi.2
theorem extract_part {cur cs K : Array Value} {o n : Nat} (h3 : cur.extract o (o + cs.size) = cs) (hn : n ≤ cs.size) (hk : cs.extract 0 (0 + n) = K) : cur.extract o (o + n) = K := by
  rw [← hk, ← h3, Array.extract_extract]
  congr 1
  omega
/-- A store, its root, the entries behind it, in a law. -/
structure St9 (w0 w : World) (s : Nat) (σ : SlabSt Nd) (root : Int) (L : Ents) (n : Nat) (b : Nat) : Prop where
  own : Ow w0 w s σ (fun _ => False)
  db : Db σ root L
  room : σ.room = n
  total : total σ ≤ b
theorem St9.adds {w0 w w' : World} {s n b : Nat} {σ : SlabSt Nd} {root : Int} {L : Ents} (h : St9 w0 w s σ root L n b) (a : Adds w w') : St9 w0 w' s σ root L n b := ⟨h.own.adds a, h.db, h.room, h.total⟩
theorem St9.world {w0 w : World} {s n b : Nat} {σ : SlabSt Nd} {root : Int} {L : Ents} (h : St9 w0 w s σ root L n b) : Adds w0 w := h.own.world
theorem St9.used {w0 w : World} {s n b : Nat} {σ : SlabSt Nd} {root : Int} {L : Ents} (h : St9 w0 w s σ root L n b) : σ.used ≤ n := by rw [← h.room]; exact h.db.good.room
def largeB (l : List Pr) : Bool := decide (16 < l.length) || l.any (fun x => decide (1024 < x.val.length))
theorem largeB_no {l : List Pr} (h : largeB l = false) : l.length ≤ 16 ∧ ∀ x ∈ l, x.val.length ≤ 1024 := by
  unfold largeB at h
  simp at h
  exact h
set_option maxRecDepth 100000 in
theorem large_ok {w : World} {ao : Option Addr} {l : List Pr} (cap : Nat) (h : PairsAt w ao l) : Calls Try.prog 11 #[.slice ao l.length cap] w fun e w' => e = .returned (.bool (largeB l)) ∧ w = w' := by
  by_cases hl : 16 < l.length
  · have e1 : largeB l = true := by unfold largeB; rw [decide_eq_true hl]; rfl
    rw [e1]
    clear h
    obtain ⟨len, hlen⟩ : ∃ len, len = l.length := ⟨_, rfl⟩
    rw [← hlen] at hl ⊢
    have hi : decide ((16 : Int) < (len : Int)) = true := decide_eq_true (by omega)
    go_enter Try.func11, Try.ntmps11
    go_wp2
    go_ret
    exact ⟨rfl, rfl⟩
  · have e1 : largeB l = l.any (fun x => decide (1024 < x.val.length)) := by unfold largeB; rw [decide_eq_false hl]; rfl
    rw [e1]
    have HP := Lib.hid h
    obtain ⟨len, hlen⟩ : ∃ len, len = l.length := ⟨_, rfl⟩
    rw [← hlen] at hl ⊢
    have HL := Lib.hid hlen
    have hi : decide ((16 : Int) < (len : Int)) = false := decide_eq_false (by omega)
    have hle : len ≤ 16 := by omega
    clear h hlen e1 hl
    go_enter Try.func11, Try.ntmps11
    go_wp2
    go_loopg [3] len (fun g s3 wr => ∃ k : Nat, s3 = .int .i64 k ∧ k + g = len ∧ (∀ i x, i < k → l[i]? = some x → x.val.length ≤ 1024) ∧ wr = w)
    case atStart => exact ⟨0, rfl, by omega, fun i x hi => absurd hi (Nat.not_lt_zero _), rfl⟩
    case round =>
      obtain ⟨k, rfl, hk, hsm, rfl⟩ := hrel
      by_cases hkl : k = len
      · have hx1 : decide ((k : Int) < (len : Int)) = false := decide_eq_false (by omega)
        have hx1' : decide (k < len) = false := decide_eq_false (by omega)
        have hany : l.any (fun x => decide (1024 < x.val.length)) = false := by
          rw [List.any_eq_false]
          intro x hx
          obtain ⟨i, hi, hix⟩ := List.getElem_of_mem hx
          have := hsm i x (by have := HL.out; omega) (by rw [List.getElem?_eq_getElem hi, hix])
          simpa using this
        clear hsm hk hkl
        go_wp2
        go_ret
        exact ⟨by rw [hany]; rfl, rfl⟩
      · have hx1 : decide ((k : Int) < (len : Int)) = true := decide_eq_true (by omega)
        have hx1' : decide (k < len) = true := decide_eq_true (by omega)
        have hkl' : k < l.length := by have := HL.out; omega
        obtain ⟨x, hx⟩ : ∃ x, l[k]? = some x := ⟨_, List.getElem?_eq_getElem hkl'⟩
        obtain ⟨g0, off, rfl, hp⟩ := HP.out.2 k x hx
        have hg := HP.out.1 x (List.mem_of_getElem? hx)
        have hc := PartAt.cellAt hp (Pr.at_val hg.key)
        obtain ⟨xo, xc, hxv, _, _⟩ := hg.val.form
        rw [hxv] at hc
        have hki : (k : Int) < (len : Int) := by omega
        have HSM := Lib.hid hsm
        have HX := Lib.hid hx
        have HKG := Lib.hid hk
        obtain ⟨n, hn⟩ : ∃ n, n = x.val.length := ⟨_, rfl⟩
        rw [← hn] at hc
        have HN := Lib.hid hn
        by_cases hb : 1024 < n
        · have hx2 : decide ((1024 : Int) < (n : Int)) = true := decide_eq_true (by omega)
          have hx2' : decide (1024 < n) = true := decide_eq_true (by omega)
          have hany : l.any (fun x => decide (1024 < x.val.length)) = true := by
            rw [List.any_eq_true]
            exact ⟨x, List.mem_of_getElem? hx, by rw [← hn]; simpa using hb⟩
          clear hsm hk hkl hp hg hx hn hb hxv
          go_wp2
          go_ret
          exact ⟨by rw [hany]; rfl, rfl⟩
        · have hx2 : decide ((1024 : Int) < (n : Int)) = false := decide_eq_false (by omega)
          have hx2' : decide (1024 < n) = false := decide_eq_false (by omega)
          clear hsm hk hkl hp hg hx hn hxv
          go_wp2
          go_roundg (gk - 1)
          case measure => have := HKG.out; omega
          case rel =>
            refine ⟨k + 1, by simp, by have := HKG.out; omega, fun i y hi hy => ?_, rfl⟩
            by_cases e : i = k
            · subst e
              rw [HX.out] at hy
              cases hy
              have := HN.out
              omega
            · exact HSM.out i y (by omega) hy
end Go.Proofs.Ytpeebeebakjpdaa.Law9

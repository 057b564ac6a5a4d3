/- A write and what it costs; a root held once more; how many entries a root has. -/
import Derived.Test.YtfllneenonhonaaPutP2
namespace Go.Proofs.Ytfllneenonhonaa.Store
open Go Go.RowKit Go.Proofs.Ytfllneenonhonaa Go.Proofs.Ytfllneenonhonaa.ShaW Go.Proofs.Ytfllneenonhonaa.Path
set_option maxHeartbeats 1600000
set_option linter.unusedVariables false

theorem side_count (d : Nat) (L : Ents) : (sideE 0 d L).length + (sideE 1 d L).length = L.length := by
  unfold sideE
  induction L with
  | nil => rfl
  | cons p L ih =>
    rw [List.filter_cons, List.filter_cons]
    rcases kbit_cases p.1 d with h | h
    · simp only [h]
      simp
      omega
    · simp only [h]
      simp
      omega
theorem sides_ok {L : Ents} {k : List UInt8} {d : Nat} (hO : L.Ok k d) (b : Nat) : ∃ k', Ents.Ok (sideE b d L) k' (d + 1) := by
  match hL : sideE b d L with
  | [] => exact ⟨k, by simp [keysOf], by simp, by simp⟩
  | p :: R =>
    have hm : ∀ q ∈ sideE b d L, q ∈ L ∧ kbit q.1 d = b := fun q hq => ⟨(List.mem_filter.1 hq).1, by simpa using (List.mem_filter.1 hq).2⟩
    have hp := hm p (by rw [hL]; simp)
    refine ⟨p.1, ?_⟩
    rw [← hL]
    exact ⟨(hO.filter _).nodup, (hO.filter _).len, fun q hq => ((hO.pre q (hm q hq).1).trans (hO.pre p hp.1).symm).next (by rw [(hm q hq).2, hp.2])⟩
theorem leaves_tree : ∀ (m : Nat), m ≤ 256 → ∀ {L : Ents} {k : List UInt8}, L.Ok k (256 - m) → (tree m L).leaves = L.length := by
  intro m
  induction m with
  | zero =>
    intro _ L k hO
    have hf := hO.few
    match L, hf with
    | [], _ => rfl
    | [p], _ => rfl
    | _ :: _ :: _, hf => simp at hf
  | succ m ih =>
    intro hm L k hO
    match hL : L, hO with
    | [], _ => rfl
    | [p], _ => rfl
    | p :: q :: R, hO =>
      rw [← hL] at hO ⊢
      obtain ⟨k0, o0⟩ := sides_ok hO 0
      obtain ⟨k1, o1⟩ := sides_ok hO 1
      rw [show 256 - (m + 1) + 1 = 256 - m by omega, show 256 - (m + 1) = 255 - m by omega] at o0 o1
      rw [tree_two (by rw [hL]; simp)]
      show (tree m _).leaves + (tree m _).leaves = _
      rw [ih (by omega) o0, ih (by omega) o1, side_count]
section
variable {σ σ2 : SlabSt Nd} {root : Int} {L : Ents} {key bs : List UInt8} {s : Nat}
theorem Db.count (D : Db σ root L) : (tree 256 L).leaves = L.length := leaves_tree 256 (Nat.le_refl _) (k := []) (Ents.Ok.any D.nodup D.len [])
theorem nd_sk (h : ∀ k, sk σ2 k = sk σ k) (e : Int) : stat (nd σ2 e) = stat (nd σ e) := by
  rw [← ndF_sk, ← ndF_sk]
  unfold ndF
  rw [h]
theorem sameS_sk (h : ∀ k, sk σ2 k = sk σ k) (key bs : List UInt8) (e : Int) : sameS σ2 key bs e = sameS σ key bs e := by
  have hs := nd_sk h e
  have h1 : (nd σ2 e).kind = (nd σ e).kind := by have := congrArg Nd.kind hs; exact this
  have h2 : (nd σ2 e).key = (nd σ e).key := by have := congrArg Nd.key hs; exact this
  have h3 : (nd σ2 e).value = (nd σ e).value := by have := congrArg Nd.value hs; exact this
  unfold sameS
  rw [h1, h2, h3]
theorem putCost_sk (h : ∀ k, sk σ2 k = sk σ k) (key : List UInt8) (l : List Int) (e : Int) : putCost σ2 key l e = putCost σ key l e := by
  have hs := nd_sk h e
  have h1 : (nd σ2 e).kind = (nd σ e).kind := by have := congrArg Nd.kind hs; exact this
  have h2 : (nd σ2 e).key = (nd σ e).key := by have := congrArg Nd.key hs; exact this
  unfold putCost endCost
  rw [h1, h2]
/-- A root that is held once more. -/
theorem hold_db (D : Db σ root L) (h0 : root ≠ 0) (ht : total σ < 1073741824) :
    (holdS σ root).1 = 0 ∧ Db (holdS σ root).2 root L ∧ (∀ k, sk (holdS σ root).2 k = sk σ k) ∧ (∀ k, held (holdS σ root).2 k = if k = root then held σ root + 1 else held σ k) ∧
      live (holdS σ root).2 = live σ ∧ total (holdS σ root).2 = total σ + 1 ∧ (holdS σ root).2.room = σ.room := by
  have hh : 1 ≤ held σ root := by
    rcases D.held with h | h
    · exact absurd h h0
    · exact h
  obtain ⟨x, hx, _⟩ := held_there hh
  obtain ⟨h1, h2, h3, h4, h5, h6⟩ := holdS_spec D.good.sound hx (by have := count_le hx; omega)
  refine ⟨h1, ⟨D.good.hold root, ?_, D.nodup, D.len, .inr (by rw [h3, if_pos rfl]; omega)⟩, h2, h3, h4, h5, h6⟩
  rw [show sk (holdS σ root).2 = sk σ from funext h2]
  exact D.rep
/-- Blocks beside the store are written by the law itself. -/
theorem Ow.own {w0 w w' : World} {G : Nat → Prop} (h : Ow w0 w s σ G) (hc : Ch (fun k => G k ∧ w0.heap.size ≤ k) w w') : Ow w0 w' s σ G := by
  obtain ⟨F, h1, h2, h3, h4⟩ := h
  exact ⟨F, h1.keep hc (fun k hk hg => (h4 k hg.1).1 hk), h2, h3.trans hc (fun k hk => .inr hk.2), fun k hk => ⟨(h4 k hk).1, Nat.lt_of_lt_of_le (h4 k hk).2 hc.size⟩⟩
end
end Go.Proofs.Ytfllneenonhonaa.Store

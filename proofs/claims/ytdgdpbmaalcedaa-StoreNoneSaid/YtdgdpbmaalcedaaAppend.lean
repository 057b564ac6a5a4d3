/- Plain law: bytes are copied by an append onto nil. -/
import Derived.Test.YtdgdpbmaalcedaaBytes
import Derived.Test.YtdgdpbmaalcedaaSlabM
import Derived.Deep.Upon
namespace Go.Proofs.Ytdgdpbmaalcedaa
open Go Go.RowKit
set_option linter.unusedVariables false

section
variable {P : Program}
theorem run_append_copy (w : World) (t ty e : TypeId) (i : TypeInfo) (ht : P.underlying t = some (.slice e)) (hi : P.info? e = some i) (hz : i.zero = some (.int .u8 0)) (hsize : i.size = 1) (hby : i.bytes = 1)
    (xv : Value) (bs : List UInt8) (hb : Bytes w xv bs) (hlen : bs.length ≤ 140737488355328) :
    ∃ v' w', (Builtin.append_ #[t, t] ty #[.slice none 0 0, xv]).run P w = .ok v' w' ∧ Bytes w' v' bs ∧ (∀ k, v'.ownBlock = some k → w.heap.size ≤ k ∧ k < w'.heap.size) ∧ Ch (fun _ => False) w w' := by
  obtain ⟨ao, cap, rfl, hcap, hcm, hat⟩ := hb
  cases bs with
  | nil =>
    refine ⟨_, w, run_append_nothing w t t ty e i ht hi none 0 0 (Nat.le_refl _) _ ?_, Bytes.nil w, (fun k hk => by cases hk), Ch.refl _ _⟩
    cases ao with
    | none => exact Src.ofNil w ht cap
    | some ad => exact Src.ofSlice w ht ad 0 cap [] (by simp) (fun j u h => by simp at h) (fun u h => by cases h)
  | cons x bs =>
    obtain ⟨g, off, rfl, _⟩ := hat 0 x rfl
    have hnews : ∀ j u, ((x :: bs).map bv)[j]? = some u → w.cell? ((⟨g, off, none⟩ : Addr).add j) = some u := fun j u hu => by
      rw [List.getElem?_map] at hu
      obtain ⟨y, hy, rfl⟩ := Option.map_eq_some_iff.1 hu
      obtain ⟨g', o', he, hc⟩ := hat j y hy
      cases he
      rw [add_plain]
      exact hc
    obtain ⟨v', w', hrun, h1, h2, h3⟩ := run_append_mine (P := P) w t ty e i (.int .u8 0) 1 1 ht hi hz hsize hby rfl (by decide) (.slice none 0 0) 0 [] (World.ownsRow_nil ..) ⟨g, off, none⟩ (x :: bs).length cap ((x :: bs).map bv) (by simp) hnews (map_bv_one _) (by unfold maxLen; omega) (by omega)
    rw [Nat.zero_add, List.nil_append] at h1
    obtain ⟨gg, cp, cur, rfl, hg, q1, q2, q3, q4⟩ := owns_block h1 (by simp)
    refine ⟨_, w', hrun, ⟨_, cp, rfl, q1, q2, fun j y hy => ⟨gg, 0, rfl, ?_⟩⟩, fun k hk => ?_, ⟨h2.os, h2.tape, h2.output, h2.size, fun k hk _ => h2.block k hk (by simp [Value.ownBlock])⟩⟩
    · rw [Nat.zero_add]
      exact row_cell hg (take_get q4 (by rw [List.getElem?_map, hy]; rfl))
    · cases hk
      refine ⟨?_, row_lt hg⟩
      rcases h3 with h | h
      · cases h
      · exact h gg rfl
theorem wpList_append_copy {w : World} {ops : Array Oper} {rest : List Oper} {o : Oper} {a : Act} {Q : Exit → Act → World → Prop} (hgd : o.guard = none) (s x : Operand) (t : TypeId)
    (ho : o.op = .call { callee := .builtin .append, args := #[s, x], argTypes := #[t, t] }) (e : TypeId) (i : TypeInfo) (ht : P.underlying t = some (.slice e)) (hi : P.info? e = some i) (hz : i.zero = some (.int .u8 0)) (hsize : i.size = 1) (hby : i.bytes = 1)
    (hs : a.eval s = .slice none 0 0) (xv : Value) (hx : a.eval x = xv) (bs : List UInt8) (hb : Bytes w xv bs) (hlen : bs.length ≤ 140737488355328)
    (h : ∀ v' w', Bytes w' v' bs → (∀ k, v'.ownBlock = some k → w.heap.size ≤ k ∧ k < w'.heap.size) → Ch (fun _ => False) w w' → wpList P ops Q rest (a.put o.dst v') w') : wpList P ops Q (o :: rest) a w :=
  wpList_plain hgd fun _ hK => by
    obtain ⟨v', w', hrun, r1, r2, r3⟩ := run_append_copy w t o.type e i ht hi hz hsize hby xv bs hb hlen
    unfold Oper.wp
    simp [execOp, ho, resolve, invoke, builtin, hs, hx, hrun, Result.andThen]
    exact hK _ _ (h v' w' r1 r2 r3)
end

end Go.Proofs.Ytdgdpbmaalcedaa

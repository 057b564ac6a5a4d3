/- The store of nodes: a node, plainly and in cells; the store in memory. -/
import Derived.Test.YtdgdpbmaalcedaaSlabSN
import Derived.Test.YtdgdpbmaalcedaaTag
import Derived.Test.YtdgdpbmaalcedaaPathF
namespace Go.Proofs.Ytdgdpbmaalcedaa
open Go Go.RowKit
set_option linter.unusedVariables false

namespace SlabSt
def map {α β : Type} (f : α → β) (σ : SlabSt α) : SlabSt β := ⟨σ.room, σ.slots.map (fun s => (f s.1, s.2)), σ.free⟩
variable {α β : Type} (f : α → β) (σ : SlabSt α)
theorem map_used : (σ.map f).used = σ.used := by simp [used, map]
theorem map_get? (n : Int) : (σ.map f).get? n = (σ.get? n).map (fun s => (f s.1, s.2)) := by
  unfold get?
  split
  · simp only [map, List.getElem?_map]
    cases σ.slots[(n - 1).toNat]? with
    | none => rfl
    | some s =>
      simp only [Option.map_some, Option.filter]
      by_cases h : s.2 != 0 <;> simp [h]
  · rfl
theorem map_count (n : Int) : (σ.map f).count n = σ.count n := by
  unfold count
  rw [map_get?]
  cases σ.get? n <;> rfl
theorem map_setAt (n : Int) (s : α × Nat) : (σ.map f).setAt n (f s.1, s.2) = (σ.setAt n s).map f := by
  simp [map, setAt, List.map_set]
theorem map_take (x : α) : (σ.map f).take (f x) = ((σ.take x).1, (σ.take x).2.1, (σ.take x).2.2.map f) := by
  unfold take
  rw [map_used]
  have hr : (σ.map f).room = σ.room := rfl
  have hf : (σ.map f).free = σ.free := rfl
  rw [hr, hf]
  split
  · rfl
  · cases σ.free.getLast? with
    | none => simp [map]
    | some n => simp [map, List.map_set]
theorem map_hold (n : Int) : (σ.map f).hold n = ((σ.hold n).1, (σ.hold n).2.map f) := by
  unfold hold
  rw [map_get?]
  cases hs : σ.get? n with
  | none => rfl
  | some s =>
    simp only [Option.map_some]
    split
    · rfl
    · exact Prod.ext rfl (map_setAt f σ n (s.1, s.2 + 1))
theorem map_drop (z : α) (n : Int) : (σ.map f).drop (f z) n = ((σ.drop z n).1, (σ.drop z n).2.1, (σ.drop z n).2.2.map f) := by
  unfold drop
  rw [map_get?]
  cases hs : σ.get? n with
  | none => rfl
  | some s =>
    simp only [Option.map_some]
    split
    · simp [map, setAt, List.map_set]
    · exact Prod.ext rfl (Prod.ext rfl (map_setAt f σ n (s.1, s.2 - 1)))
theorem map_set (n : Int) (x : α) : (σ.map f).set n (f x) = ((σ.set n x).1, (σ.set n x).2.map f) := by
  unfold set
  rw [map_get?]
  cases hs : σ.get? n with
  | none => rfl
  | some s => exact Prod.ext rfl (map_setAt f σ n (x, s.2))
theorem map_occ : ∀ k, (σ.map f).get? k = none ↔ σ.get? k = none := fun k => by
  rw [map_get?]; cases σ.get? k <;> simp
end SlabSt

/-- A node, with the address where its value lies. -/
structure Nd where
  digest : List UInt8
  kind : Nat
  depth : Int
  key : List UInt8
  addr : Value
  value : List UInt8
  hash : List UInt8
  left : Int
  right : Int
  size : Int
  held : Int
namespace Nd
def z32 : List UInt8 := List.replicate 32 0
def zero : Nd := ⟨z32, 0, 0, z32, .slice none 0 0, [], z32, 0, 0, 0, 0⟩
def cells (n : Nd) : Array Value := (n.digest.map bv ++ (.int .u8 (n.kind : Nat) :: .int .i64 n.depth :: (n.key.map bv ++ (n.addr :: (n.hash.map bv ++ [.int .i64 n.left, .int .i64 n.right, .int .i64 n.size, .int .i64 n.held]))))).toArray
def enc (n : Nd) : Value := .agg n.cells
structure Ok (n : Nd) : Prop where
  digest : n.digest.length = 32
  key : n.key.length = 32
  hash : n.hash.length = 32
  addr : ∃ ao len cap, n.addr = .slice ao len cap
  val : n.value.length ≤ 1024
theorem zero_ok : zero.Ok := ⟨rfl, rfl, rfl, ⟨none, 0, 0, rfl⟩, by decide⟩
variable {n : Nd}
theorem cells_size (h : n.Ok) : n.cells.size = 103 := by simp [cells, h.digest, h.key, h.hash]
theorem cells_list : n.cells.toList = n.digest.map bv ++ (.int .u8 (n.kind : Nat) :: .int .i64 n.depth :: (n.key.map bv ++ (n.addr :: (n.hash.map bv ++ [.int .i64 n.left, .int .i64 n.right, .int .i64 n.size, .int .i64 n.held])))) := rfl
theorem at_kind (h : n.Ok) : n.cells[32]? = some (.int .u8 (n.kind : Nat)) := by
  rw [← Array.getElem?_toList, cells_list, List.getElem?_append_right (by simp [h.digest])]; simp [h.digest]
theorem at_depth (h : n.Ok) : n.cells[33]? = some (.int .i64 n.depth) := by
  rw [← Array.getElem?_toList, cells_list, List.getElem?_append_right (by simp [h.digest])]; simp [h.digest]
theorem tail_of (h : n.Ok) (i : Nat) : n.cells[66 + i]? = (n.addr :: (n.hash.map bv ++ [.int .i64 n.left, .int .i64 n.right, .int .i64 n.size, .int .i64 n.held]))[i]? := by
  rw [← Array.getElem?_toList, cells_list, List.getElem?_append_right (by simp [h.digest]; omega)]
  simp only [List.length_map, h.digest]
  rw [show 66 + i - 32 = (32 + i) + 1 + 1 by omega, List.getElem?_cons_succ, List.getElem?_cons_succ, List.getElem?_append_right (by simp [h.key])]
  simp [h.key]
theorem at_addr (h : n.Ok) : n.cells[66]? = some n.addr := tail_of h 0
theorem end_of (h : n.Ok) (i : Nat) : n.cells[99 + i]? = [Value.int .i64 n.left, .int .i64 n.right, .int .i64 n.size, .int .i64 n.held][i]? := by
  rw [show 99 + i = 66 + (32 + i + 1) by omega, tail_of h, List.getElem?_cons_succ, List.getElem?_append_right (by simp [h.hash])]
  simp [h.hash]
theorem at_left (h : n.Ok) : n.cells[99]? = some (.int .i64 n.left) := end_of h 0
theorem at_right (h : n.Ok) : n.cells[100]? = some (.int .i64 n.right) := end_of h 1
theorem at_size (h : n.Ok) : n.cells[101]? = some (.int .i64 n.size) := end_of h 2
theorem at_held (h : n.Ok) : n.cells[102]? = some (.int .i64 n.held) := end_of h 3
theorem at_digest (h : n.Ok) : n.cells.extract 0 (0 + 32) = brow n.digest := by
  apply Array.ext'
  simp only [Array.toList_extract, List.extract, cells_list, brow, List.drop_zero]
  rw [List.take_append_of_le_length (by simp [h.digest]), List.take_of_length_le (by simp [h.digest])]
theorem at_key (h : n.Ok) : n.cells.extract 34 (34 + 32) = brow n.key := by
  apply Array.ext'
  simp only [Array.toList_extract, List.extract, cells_list, brow]
  rw [List.drop_append, List.drop_eq_nil_of_le (by simp [h.digest]), List.nil_append, List.length_map, h.digest]
  simp only [show 34 - 32 = 2 by rfl, List.drop_succ_cons, List.drop_zero]
  rw [List.take_append_of_le_length (by simp [h.key]), List.take_of_length_le (by simp [h.key])]
theorem at_hash (h : n.Ok) : n.cells.extract 67 (67 + 32) = brow n.hash := by
  apply Array.ext'
  simp only [Array.toList_extract, List.extract, cells_list, brow]
  rw [List.drop_append, List.drop_eq_nil_of_le (by simp [h.digest]), List.nil_append, List.length_map, h.digest]
  simp only [show 67 - 32 = 33 + 1 + 1 by rfl, List.drop_succ_cons]
  rw [List.drop_append, List.drop_eq_nil_of_le (by simp [h.key]), List.nil_append, List.length_map, h.key]
  simp only [show 33 - 32 = 1 by rfl, List.drop_succ_cons, List.drop_zero]
  rw [List.take_append_of_le_length (by simp [h.hash]), List.take_of_length_le (by simp [h.hash])]
theorem set_held (h : n.Ok) (x : Int) : n.cells.setIfInBounds 102 (.int .i64 x) = ({ n with held := x } : Nd).cells := by
  apply Array.ext'
  simp only [Array.toList_setIfInBounds, cells_list]
  rw [List.set_append_right _ _ (by simp [h.digest]), List.length_map, h.digest]
  simp only [show 102 - 32 = 68 + 1 + 1 by rfl, List.set_cons_succ]
  rw [List.set_append_right _ _ (by simp [h.key]), List.length_map, h.key]
  simp only [show 68 - 32 = 35 + 1 by rfl, List.set_cons_succ]
  rw [List.set_append_right _ _ (by simp [h.hash]), List.length_map, h.hash]
  rfl
theorem cells_one (h : n.Ok) : ∀ v ∈ n.cells.toList, v.oneCell' = true := fun v hv => by
  obtain ⟨ao, len, cap, ha⟩ := h.addr
  rw [cells_list] at hv
  simp only [List.mem_append, List.mem_cons, List.not_mem_nil, or_false] at hv
  rcases hv with hv | rfl | rfl | hv | rfl | hv | rfl | rfl | rfl | rfl
  · exact map_bv_one _ v hv
  · rfl
  · rfl
  · exact map_bv_one _ v hv
  · rw [ha]; rfl
  · exact map_bv_one _ v hv
  all_goals rfl
theorem enc_ok (h : n.Ok) : SlabN.OkV n.enc := ⟨n.cells, rfl, cells_size h, cells_one h⟩
theorem zero_enc : SlabN.zero = zero.enc := by
  have h : (Try.prog.info? 124).bind (·.zero) = some zero.enc := by kernel_rfl
  have := SlabN.zero_is.symm.trans h
  exact Option.some.inj this
end Nd

end Go.Proofs.Ytdgdpbmaalcedaa

/- The store of nodes: how a node is built of its parts. -/
import Derived.Test.YtdgdpbmaalcedaaStoreM
namespace Go.Proofs.Ytdgdpbmaalcedaa.Nd
open Go Go.RowKit Go.Proofs.Ytdgdpbmaalcedaa
set_option linter.unusedVariables false

theorem splice_mid (A B C V : List Value) (k : Nat) (hk : A.length = k) (hB : B.length = V.length) : splice (A ++ (B ++ C)) k V = A ++ (V ++ C) := by
  subst hk
  unfold splice
  rw [List.take_append_of_le_length (Nat.le_refl _), List.take_of_length_le (Nat.le_refl _), List.drop_append, List.drop_eq_nil_of_le (by omega), List.nil_append, show A.length + V.length - A.length = V.length by omega, List.drop_append, List.drop_eq_nil_of_le (by omega), List.nil_append, hB, Nat.sub_self, List.drop_zero, List.append_assoc]
variable {n : Nd} (h : n.Ok)
include h
theorem put_digest (D : List UInt8) (hD : D.length = 32) : splice n.cells.toList 0 (brow D).toList = ({ n with digest := D } : Nd).cells.toList := by
  rw [cells_list, cells_list]
  exact splice_mid [] _ _ (D.map bv) 0 rfl (by simp [h.digest, hD])
theorem put_kind (k : Nat) : splice n.cells.toList 32 [.int .u8 (k : Nat)] = ({ n with kind := k } : Nd).cells.toList := by
  rw [cells_list, cells_list]
  exact splice_mid (n.digest.map bv) [_] _ [_] 32 (by simp [h.digest]) rfl
theorem put_depth (d : Int) : splice n.cells.toList 33 [.int .i64 d] = ({ n with depth := d } : Nd).cells.toList := by
  rw [cells_list, cells_list]
  have := splice_mid (n.digest.map bv ++ [.int .u8 (n.kind : Nat)]) [.int .i64 n.depth] (n.key.map bv ++ (n.addr :: (n.hash.map bv ++ [.int .i64 n.left, .int .i64 n.right, .int .i64 n.size, .int .i64 n.held]))) [.int .i64 d] 33 (by simp [h.digest]) rfl
  simpa using this
theorem put_key (K : List UInt8) (hK : K.length = 32) : splice n.cells.toList 34 (brow K).toList = ({ n with key := K } : Nd).cells.toList := by
  rw [cells_list, cells_list]
  have := splice_mid (n.digest.map bv ++ [.int .u8 (n.kind : Nat), .int .i64 n.depth]) (n.key.map bv) (n.addr :: (n.hash.map bv ++ [.int .i64 n.left, .int .i64 n.right, .int .i64 n.size, .int .i64 n.held])) (K.map bv) 34 (by simp [h.digest]) (by simp [h.key, hK])
  simpa [brow] using this
theorem put_addr (v : Value) (b : List UInt8) : splice n.cells.toList 66 [v] = ({ n with addr := v, value := b } : Nd).cells.toList := by
  rw [cells_list, cells_list]
  have := splice_mid (n.digest.map bv ++ (.int .u8 (n.kind : Nat) :: .int .i64 n.depth :: n.key.map bv)) [n.addr] (n.hash.map bv ++ [.int .i64 n.left, .int .i64 n.right, .int .i64 n.size, .int .i64 n.held]) [v] 66 (by simp [h.digest, h.key]) rfl
  simpa using this
theorem put_hash (H : List UInt8) (hH : H.length = 32) : splice n.cells.toList 67 (brow H).toList = ({ n with hash := H } : Nd).cells.toList := by
  rw [cells_list, cells_list]
  have := splice_mid (n.digest.map bv ++ (.int .u8 (n.kind : Nat) :: .int .i64 n.depth :: (n.key.map bv ++ [n.addr]))) (n.hash.map bv) [.int .i64 n.left, .int .i64 n.right, .int .i64 n.size, .int .i64 n.held] (H.map bv) 67 (by simp [h.digest, h.key]) (by simp [h.hash, hH])
  simpa [brow] using this
theorem put_left (x : Int) : splice n.cells.toList 99 [.int .i64 x] = ({ n with left := x } : Nd).cells.toList := by
  rw [cells_list, cells_list]
  have := splice_mid (n.digest.map bv ++ (.int .u8 (n.kind : Nat) :: .int .i64 n.depth :: (n.key.map bv ++ (n.addr :: n.hash.map bv)))) [.int .i64 n.left] [.int .i64 n.right, .int .i64 n.size, .int .i64 n.held] [.int .i64 x] 99 (by simp [h.digest, h.key, h.hash]) rfl
  simpa using this
theorem put_right (x : Int) : splice n.cells.toList 100 [.int .i64 x] = ({ n with right := x } : Nd).cells.toList := by
  rw [cells_list, cells_list]
  have := splice_mid (n.digest.map bv ++ (.int .u8 (n.kind : Nat) :: .int .i64 n.depth :: (n.key.map bv ++ (n.addr :: (n.hash.map bv ++ [.int .i64 n.left]))))) [.int .i64 n.right] [.int .i64 n.size, .int .i64 n.held] [.int .i64 x] 100 (by simp [h.digest, h.key, h.hash]) rfl
  simpa using this
theorem put_size (x : Int) : splice n.cells.toList 101 [.int .i64 x] = ({ n with size := x } : Nd).cells.toList := by
  rw [cells_list, cells_list]
  have := splice_mid (n.digest.map bv ++ (.int .u8 (n.kind : Nat) :: .int .i64 n.depth :: (n.key.map bv ++ (n.addr :: (n.hash.map bv ++ [.int .i64 n.left, .int .i64 n.right]))))) [.int .i64 n.size] [.int .i64 n.held] [.int .i64 x] 101 (by simp [h.digest, h.key, h.hash]) rfl
  simpa using this
theorem put_held (x : Int) : splice n.cells.toList 102 [.int .i64 x] = ({ n with held := x } : Nd).cells.toList := by
  rw [cells_list, cells_list]
  have := splice_mid (n.digest.map bv ++ (.int .u8 (n.kind : Nat) :: .int .i64 n.depth :: (n.key.map bv ++ (n.addr :: (n.hash.map bv ++ [.int .i64 n.left, .int .i64 n.right, .int .i64 n.size]))))) [.int .i64 n.held] [] [.int .i64 x] 102 (by simp [h.digest, h.key, h.hash]) rfl
  simpa using this
omit h

/-- What is at hand of the type of nodes. -/
theorem node_info : ∃ i fs, Try.prog.info? 124 = some i ∧ i.zero = some (.agg zero.cells) ∧ Try.prog.underlying 124 = some (.struct fs) ∧
    fs.toList.mapM (fun f => (Try.prog.info? f.type).map fun i => (f.offset, i.size)) = some [(0, 32), (32, 1), (33, 1), (34, 32), (66, 1), (67, 32), (99, 1), (100, 1), (101, 1), (102, 1)] := by
  obtain ⟨i, hi⟩ : ∃ i, Try.prog.info? 124 = some i := Option.isSome_iff_exists.1 (by kernel_rfl)
  have hz : (Try.prog.info? 124).bind (·.zero) = some (.agg zero.cells) := by kernel_rfl
  rw [hi] at hz
  exact ⟨i, _, hi, hz, Try.underlying124, by kernel_rfl⟩
theorem built_digested (D : List UInt8) (hD : D.length = 32) : Try.prog.built 122 [(0, .agg (brow D))] = some (brow D) := by
  obtain ⟨i, hi⟩ : ∃ i, Try.prog.info? 122 = some i := Option.isSome_iff_exists.1 (by kernel_rfl)
  have hz : (Try.prog.info? 122).bind (·.zero) = some (.agg (brow z32)) := by kernel_rfl
  rw [hi] at hz
  have hz' : i.zero = some (.agg (brow z32)) := hz
  have hu := Try.underlying122
  have hp : ([⟨(0 : Nat), (32 : Nat)⟩] : List (Nat × Nat)) = [(0, 32)] := rfl
  unfold Program.built
  rw [hi, hu]
  simp only [hz']
  have hm : (List.mapM (fun (f : Field) => (Try.prog.info? f.type).map fun i => (f.offset, i.size)) (Option.getD ((Try.prog.underlying 122).map (fun d => match d with | .struct fs => fs.toList | _ => [])) [])) = some [(0, 32)] := by kernel_rfl
  rw [hu] at hm
  simp only [Option.map_some, Option.getD_some] at hm
  rw [hm]
  show Instr.fill _ (brow z32) _ = _
  rw [fill_step (off := 0) (size := 32) rfl (by simp [Value.cells, brow_size, hD]) (by simp [brow_size, z32])]
  show some _ = _
  rw [splice_all _ _ (by simp [Value.cells, brow, z32, hD])]
  rfl
/-- A leaf's node. -/
def leaf (D K H b : List UInt8) (v : Value) : Nd := ⟨D, 1, -1, K, v, b, H, 0, 0, 1, 1⟩
theorem leaf_ok {D K H b : List UInt8} {v : Value} (hD : D.length = 32) (hK : K.length = 32) (hH : H.length = 32) (hb : b.length ≤ 1024) (hv : ∃ ao len cap, v = .slice ao len cap) : (leaf D K H b v).Ok := ⟨hD, hK, hH, hv, hb⟩
/-- An inner node. -/
def inner (D K : List UInt8) (d l r s : Int) : Nd := ⟨D, 2, d, K, .slice none 0 0, [], z32, l, r, s, 1⟩
theorem inner_ok {D K : List UInt8} {d l r s : Int} (hD : D.length = 32) (hK : K.length = 32) : (inner D K d l r s).Ok := ⟨hD, hK, rfl, ⟨none, 0, 0, rfl⟩, Nat.zero_le _⟩

theorem built_leaf (D K H b : List UInt8) (v : Value) (hD : D.length = 32) (hK : K.length = 32) (hH : H.length = 32) (hb : b.length ≤ 1024) (hv : ∃ ao len cap, v = .slice ao len cap) :
    Try.prog.built 124 [(0, .agg (brow D)), (1, .int .u8 1), (2, .int .i64 (-1)), (3, .agg (brow K)), (4, v), (5, .agg (brow H)), (8, .int .i64 1), (9, .int .i64 1)] = some (leaf D K H b v).cells := by
  obtain ⟨i, fs, h1, h2, h3, h4⟩ := node_info
  obtain ⟨ao, len, cap, rfl⟩ := hv
  unfold Program.built
  rw [h1, h3]
  simp only [h2, h4]
  have o0 := zero_ok
  have o1 : ({ zero with digest := D } : Nd).Ok := ⟨hD, rfl, rfl, ⟨_, _, _, rfl⟩, Nat.zero_le _⟩
  have o2 : ({ zero with digest := D, kind := 1 } : Nd).Ok := ⟨hD, rfl, rfl, ⟨_, _, _, rfl⟩, Nat.zero_le _⟩
  have o3 : ({ zero with digest := D, kind := 1, depth := -1 } : Nd).Ok := ⟨hD, rfl, rfl, ⟨_, _, _, rfl⟩, Nat.zero_le _⟩
  have o4 : ({ zero with digest := D, kind := 1, depth := -1, key := K } : Nd).Ok := ⟨hD, hK, rfl, ⟨_, _, _, rfl⟩, Nat.zero_le _⟩
  have o5 : ({ zero with digest := D, kind := 1, depth := -1, key := K, addr := .slice ao len cap, value := b } : Nd).Ok := ⟨hD, hK, rfl, ⟨_, _, _, rfl⟩, hb⟩
  have o6 : ({ zero with digest := D, kind := 1, depth := -1, key := K, addr := .slice ao len cap, value := b, hash := H } : Nd).Ok := ⟨hD, hK, hH, ⟨_, _, _, rfl⟩, hb⟩
  have o7 : ({ zero with digest := D, kind := 1, depth := -1, key := K, addr := .slice ao len cap, value := b, hash := H, size := 1 } : Nd).Ok := ⟨hD, hK, hH, ⟨_, _, _, rfl⟩, hb⟩
  show Instr.fill _ zero.cells _ = _
  rw [fill_step (off := 0) (size := 32) rfl (by simp [Value.cells, brow_size, hD]) (by rw [cells_size o0]; omega)]
  rw [show (splice zero.cells.toList 0 (Value.agg (brow D)).cells.toList).toArray = ({ zero with digest := D } : Nd).cells by rw [show (Value.agg (brow D)).cells = brow D from rfl, put_digest o0 D hD]]
  rw [fill_step (off := 32) (size := 1) rfl rfl (by rw [cells_size o1]; omega)]
  rw [show (splice ({ zero with digest := D } : Nd).cells.toList 32 (Value.int .u8 1).cells.toList).toArray = ({ zero with digest := D, kind := 1 } : Nd).cells by have := put_kind o1 1; exact congrArg List.toArray this]
  rw [fill_step (off := 33) (size := 1) rfl rfl (by rw [cells_size o2]; omega)]
  rw [show (splice ({ zero with digest := D, kind := 1 } : Nd).cells.toList 33 (Value.int .i64 (-1)).cells.toList).toArray = ({ zero with digest := D, kind := 1, depth := -1 } : Nd).cells by have := put_depth o2 (-1); exact congrArg List.toArray this]
  rw [fill_step (off := 34) (size := 32) rfl (by simp [Value.cells, brow_size, hK]) (by rw [cells_size o3]; omega)]
  rw [show (splice ({ zero with digest := D, kind := 1, depth := -1 } : Nd).cells.toList 34 (Value.agg (brow K)).cells.toList).toArray = ({ zero with digest := D, kind := 1, depth := -1, key := K } : Nd).cells by have := put_key o3 K hK; exact congrArg List.toArray this]
  rw [fill_step (off := 66) (size := 1) rfl rfl (by rw [cells_size o4]; omega)]
  rw [show (splice ({ zero with digest := D, kind := 1, depth := -1, key := K } : Nd).cells.toList 66 (Value.slice ao len cap).cells.toList).toArray = ({ zero with digest := D, kind := 1, depth := -1, key := K, addr := .slice ao len cap, value := b } : Nd).cells by have := put_addr o4 (.slice ao len cap) b; exact congrArg List.toArray this]
  rw [fill_step (off := 67) (size := 32) rfl (by simp [Value.cells, brow_size, hH]) (by rw [cells_size o5]; omega)]
  rw [show (splice ({ zero with digest := D, kind := 1, depth := -1, key := K, addr := .slice ao len cap, value := b } : Nd).cells.toList 67 (Value.agg (brow H)).cells.toList).toArray = ({ zero with digest := D, kind := 1, depth := -1, key := K, addr := .slice ao len cap, value := b, hash := H } : Nd).cells by have := put_hash o5 H hH; exact congrArg List.toArray this]
  rw [fill_step (off := 101) (size := 1) rfl rfl (by rw [cells_size o6]; omega)]
  rw [show (splice ({ zero with digest := D, kind := 1, depth := -1, key := K, addr := .slice ao len cap, value := b, hash := H } : Nd).cells.toList 101 (Value.int .i64 1).cells.toList).toArray = ({ zero with digest := D, kind := 1, depth := -1, key := K, addr := .slice ao len cap, value := b, hash := H, size := 1 } : Nd).cells by have := put_size o6 1; exact congrArg List.toArray this]
  rw [fill_step (off := 102) (size := 1) rfl rfl (by rw [cells_size o7]; omega)]
  rw [show (splice ({ zero with digest := D, kind := 1, depth := -1, key := K, addr := .slice ao len cap, value := b, hash := H, size := 1 } : Nd).cells.toList 102 (Value.int .i64 1).cells.toList).toArray = (leaf D K H b (.slice ao len cap)).cells by have := put_held o7 1; exact congrArg List.toArray this]
  rfl

theorem built_inner (D K : List UInt8) (d l r s : Int) (hD : D.length = 32) (hK : K.length = 32) :
    Try.prog.built 124 [(0, .agg (brow D)), (1, .int .u8 2), (2, .int .i64 d), (3, .agg (brow K)), (6, .int .i64 l), (7, .int .i64 r), (8, .int .i64 s), (9, .int .i64 1)] = some (inner D K d l r s).cells := by
  obtain ⟨i, fs, h1, h2, h3, h4⟩ := node_info
  unfold Program.built
  rw [h1, h3]
  simp only [h2, h4]
  have o0 := zero_ok
  have o1 : ({ zero with digest := D } : Nd).Ok := ⟨hD, rfl, rfl, ⟨_, _, _, rfl⟩, Nat.zero_le _⟩
  have o2 : ({ zero with digest := D, kind := 2 } : Nd).Ok := ⟨hD, rfl, rfl, ⟨_, _, _, rfl⟩, Nat.zero_le _⟩
  have o3 : ({ zero with digest := D, kind := 2, depth := d } : Nd).Ok := ⟨hD, rfl, rfl, ⟨_, _, _, rfl⟩, Nat.zero_le _⟩
  have o4 : ({ zero with digest := D, kind := 2, depth := d, key := K } : Nd).Ok := ⟨hD, hK, rfl, ⟨_, _, _, rfl⟩, Nat.zero_le _⟩
  have o5 : ({ zero with digest := D, kind := 2, depth := d, key := K, left := l } : Nd).Ok := ⟨hD, hK, rfl, ⟨_, _, _, rfl⟩, Nat.zero_le _⟩
  have o6 : ({ zero with digest := D, kind := 2, depth := d, key := K, left := l, right := r } : Nd).Ok := ⟨hD, hK, rfl, ⟨_, _, _, rfl⟩, Nat.zero_le _⟩
  have o7 : ({ zero with digest := D, kind := 2, depth := d, key := K, left := l, right := r, size := s } : Nd).Ok := ⟨hD, hK, rfl, ⟨_, _, _, rfl⟩, Nat.zero_le _⟩
  show Instr.fill _ zero.cells _ = _
  rw [fill_step (off := 0) (size := 32) rfl (by simp [Value.cells, brow_size, hD]) (by rw [cells_size o0]; omega)]
  rw [show (splice zero.cells.toList 0 (Value.agg (brow D)).cells.toList).toArray = ({ zero with digest := D } : Nd).cells by rw [show (Value.agg (brow D)).cells = brow D from rfl, put_digest o0 D hD]]
  rw [fill_step (off := 32) (size := 1) rfl rfl (by rw [cells_size o1]; omega)]
  rw [show (splice ({ zero with digest := D } : Nd).cells.toList 32 (Value.int .u8 2).cells.toList).toArray = ({ zero with digest := D, kind := 2 } : Nd).cells by have := put_kind o1 2; exact congrArg List.toArray this]
  rw [fill_step (off := 33) (size := 1) rfl rfl (by rw [cells_size o2]; omega)]
  rw [show (splice ({ zero with digest := D, kind := 2 } : Nd).cells.toList 33 (Value.int .i64 d).cells.toList).toArray = ({ zero with digest := D, kind := 2, depth := d } : Nd).cells by have := put_depth o2 d; exact congrArg List.toArray this]
  rw [fill_step (off := 34) (size := 32) rfl (by simp [Value.cells, brow_size, hK]) (by rw [cells_size o3]; omega)]
  rw [show (splice ({ zero with digest := D, kind := 2, depth := d } : Nd).cells.toList 34 (Value.agg (brow K)).cells.toList).toArray = ({ zero with digest := D, kind := 2, depth := d, key := K } : Nd).cells by have := put_key o3 K hK; exact congrArg List.toArray this]
  rw [fill_step (off := 99) (size := 1) rfl rfl (by rw [cells_size o4]; omega)]
  rw [show (splice ({ zero with digest := D, kind := 2, depth := d, key := K } : Nd).cells.toList 99 (Value.int .i64 l).cells.toList).toArray = ({ zero with digest := D, kind := 2, depth := d, key := K, left := l } : Nd).cells by have := put_left o4 l; exact congrArg List.toArray this]
  rw [fill_step (off := 100) (size := 1) rfl rfl (by rw [cells_size o5]; omega)]
  rw [show (splice ({ zero with digest := D, kind := 2, depth := d, key := K, left := l } : Nd).cells.toList 100 (Value.int .i64 r).cells.toList).toArray = ({ zero with digest := D, kind := 2, depth := d, key := K, left := l, right := r } : Nd).cells by have := put_right o5 r; exact congrArg List.toArray this]
  rw [fill_step (off := 101) (size := 1) rfl rfl (by rw [cells_size o6]; omega)]
  rw [show (splice ({ zero with digest := D, kind := 2, depth := d, key := K, left := l, right := r } : Nd).cells.toList 101 (Value.int .i64 s).cells.toList).toArray = ({ zero with digest := D, kind := 2, depth := d, key := K, left := l, right := r, size := s } : Nd).cells by have := put_size o6 s; exact congrArg List.toArray this]
  rw [fill_step (off := 102) (size := 1) rfl rfl (by rw [cells_size o7]; omega)]
  rw [show (splice ({ zero with digest := D, kind := 2, depth := d, key := K, left := l, right := r, size := s } : Nd).cells.toList 102 (Value.int .i64 1).cells.toList).toArray = (inner D K d l r s).cells by have := put_held o7 1; exact congrArg List.toArray this]
  rfl

end Go.Proofs.Ytdgdpbmaalcedaa.Nd

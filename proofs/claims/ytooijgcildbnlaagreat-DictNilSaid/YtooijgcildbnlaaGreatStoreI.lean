/- The contracts of store.Store, part eight: fit, fits. -/
import Derived.Test.YtooijgcildbnlaaGreatStoreF
namespace Go.Proofs.YtooijgcildbnlaaGreat.Store
open Go Go.RowKit Go.Proofs.YtooijgcildbnlaaGreat Go.Proofs.YtooijgcildbnlaaGreat.ShaW Go.Proofs.YtooijgcildbnlaaGreat.Path
set_option maxHeartbeats 1600000
set_option linter.unusedVariables false

def unfit (n : Nd) (d : Int) : Bool := decide (n.kind = 2) && decide (n.depth ≠ d + 1)
def fitB (n : Nd) (d b : Int) : Bool := if unfit n d then false else decide (bit n.key d = b)

set_option maxRecDepth 100000 in
theorem fit_bad {n : Nd} (hn : n.Ok) (d b : Int) (hd0 : 0 ≤ d) (hd1 : d ≤ 255) (hk : n.kind = 2) (hx : n.depth ≠ d + 1) (w : World) :
    Calls Tryz.prog 283 #[n.enc, .int .i64 d, .int .i64 b] w fun e w' => e = .returned (.bool false) ∧ Adds w w' := by
  have k0 : n.cells[32]? = some (.int .u8 2) := by rw [Nd.at_kind hn, hk]; rfl
  have k1 : n.cells[33]? = some (.int .i64 n.depth) := Nd.at_depth hn
  have hw : IntKind.i64.wrap (d + 1) = d + 1 := IntWalk.i64_in _ (by omega)
  obtain ⟨N, hN⟩ : ∃ N, N = n.cells := ⟨_, rfl⟩
  unfold Nd.enc
  rw [← hN] at k0 k1 ⊢
  have c0 := row_cell (heap_alloc_new w (.cells N 159)) k0
  have c1 := row_cell (heap_alloc_new w (.cells N 159)) k1
  clear k0 k1 hN hk hn
  generalize n.depth = dd at *
  have hx' : decide (dd = d + 1) = false := by simpa using hx
  go_enter Tryz.func283, Tryz.ntmps283
  go_wp2
  go_ret
  exact ⟨rfl, (Ch.refl _ _).alloc _⟩

set_option maxRecDepth 100000 in
theorem fit_bit {n : Nd} (hn : n.Ok) (d b : Int) (hk : n.kind ≠ 2) (w : World) :
    Calls Tryz.prog 283 #[n.enc, .int .i64 d, .int .i64 b] w fun e w' => e = .returned (.bool (decide (bit n.key d = b))) ∧ Adds w w' := by
  have k0 : n.cells[32]? = some (.int .u8 (n.kind : Nat)) := Nd.at_kind hn
  have hB := Bit_ok n.key hn.key d
  have hx := Nd.at_key hn
  have hNs := Nd.cells_size hn
  obtain ⟨N, hN⟩ : ∃ N, N = n.cells := ⟨_, rfl⟩
  obtain ⟨K, hK⟩ : ∃ K, K = brow n.key := ⟨_, rfl⟩
  unfold Nd.enc
  rw [← hN] at k0 hx hNs ⊢
  rw [← hK] at hx hB
  have hr := heap_alloc_new w (.cells N 159)
  have c0 := row_cell hr k0
  have hkk : (((n.kind : Nat) : Int) = 2) = False := by simp; omega
  have HB := Lib.hid hB
  have HX := Lib.hid hx
  have HN := Lib.hid hNs
  have HR := Lib.hid hr
  clear hB hx hNs hN hK k0 hr hk hn
  generalize hkd : ((n.kind : Nat) : Int) = kd at *
  clear hkd
  generalize bit n.key d = bb at *
  go_enter Tryz.func283, Tryz.ntmps283
  go_wp2_with (first
    | ((with_reducible show wpList _ _ _ (⟨_, .load 24 _, _, _, _, _⟩ :: _) _ _); refine wpList_load_part rfl 24 _ rfl w.heap.size 34 rfl HR.out Tryz.underlying24 rfl sizeP (by rw [HN.out]; omega) K HX.out ?_))
  refine (HB.out _).mono ?_; rintro e w1 ⟨rfl, hc1⟩
  have C1 := Lib.hid hc1
  clear hc1
  go_wp2
  go_ret
  exact ⟨rfl, ((Ch.refl (fun _ => False) w).alloc _).trans C1.out (fun _ h => h.elim)⟩

set_option maxRecDepth 100000 in
theorem fit_deep {n : Nd} (hn : n.Ok) (d b : Int) (hd0 : 0 ≤ d) (hd1 : d ≤ 255) (hk : n.kind = 2) (hx : n.depth = d + 1) (w : World) :
    Calls Tryz.prog 283 #[n.enc, .int .i64 d, .int .i64 b] w fun e w' => e = .returned (.bool (decide (bit n.key d = b))) ∧ Adds w w' := by
  have k0 : n.cells[32]? = some (.int .u8 2) := by rw [Nd.at_kind hn, hk]; rfl
  have k1 : n.cells[33]? = some (.int .i64 (d + 1)) := by rw [← hx]; exact Nd.at_depth hn
  have hw : IntKind.i64.wrap (d + 1) = d + 1 := IntWalk.i64_in _ (by omega)
  have hB := Bit_ok n.key hn.key d
  have hx := Nd.at_key hn
  have hNs := Nd.cells_size hn
  obtain ⟨N, hN⟩ : ∃ N, N = n.cells := ⟨_, rfl⟩
  obtain ⟨K, hK⟩ : ∃ K, K = brow n.key := ⟨_, rfl⟩
  unfold Nd.enc
  rw [← hN] at k0 k1 hx hNs ⊢
  rw [← hK] at hx hB
  have hr := heap_alloc_new w (.cells N 159)
  have c0 := row_cell hr k0
  have c1 := row_cell hr k1
  have HB := Lib.hid hB
  have HX := Lib.hid hx
  have HN := Lib.hid hNs
  have HR := Lib.hid hr
  clear hB hx hNs hN hK k0 k1 hr hk hn
  generalize bit n.key d = bb at *
  go_enter Tryz.func283, Tryz.ntmps283
  go_wp2_with (first
    | ((with_reducible show wpList _ _ _ (⟨_, .load 24 _, _, _, _, _⟩ :: _) _ _); refine wpList_load_part rfl 24 _ rfl w.heap.size 34 rfl HR.out Tryz.underlying24 rfl sizeP (by rw [HN.out]; omega) K HX.out ?_))
  refine (HB.out _).mono ?_; rintro e w1 ⟨rfl, hc1⟩
  have C1 := Lib.hid hc1
  clear hc1
  go_wp2
  go_ret
  exact ⟨rfl, ((Ch.refl (fun _ => False) w).alloc _).trans C1.out (fun _ h => h.elim)⟩

/-- fit. -/
theorem fit_ok {n : Nd} (hn : n.Ok) (d b : Int) (hd0 : 0 ≤ d) (hd1 : d ≤ 255) (w : World) :
    Calls Tryz.prog 283 #[n.enc, .int .i64 d, .int .i64 b] w fun e w' => e = .returned (.bool (fitB n d b)) ∧ Adds w w' := by
  by_cases hk : n.kind = 2
  · by_cases hx : n.depth = d + 1
    · have : fitB n d b = decide (bit n.key d = b) := by simp [fitB, unfit, hk, hx]
      rw [this]
      exact fit_deep hn d b hd0 hd1 hk hx w
    · have : fitB n d b = false := by simp [fitB, unfit, hk, hx]
      rw [this]
      exact fit_bad hn d b hd0 hd1 hk hx w
  · have : fitB n d b = decide (bit n.key d = b) := by simp [fitB, unfit, hk]
    rw [this]
    exact fit_bit hn d b hk w

def fitsB (d left right : Int) (l r : Nd) : Bool :=
  if left = 0 then (if right = 0 then false else decide (r.kind = 2) && fitB r d 1)
  else if right = 0 then decide (l.kind = 2) && fitB l d 0
  else fitB l d 0 && (fitB r d 1 && decide (d ≤ (common l.key r.key : Nat)))

theorem two_left (w : World) (L R : Array Value) : ((w.alloc (.cells L 159)).alloc (.cells R 159)).heap[w.heap.size]? = some (.cells L 159 (0, 0)) := row_alloc (heap_alloc_new _ _) _
theorem two_right (w : World) (L R : Array Value) : ((w.alloc (.cells L 159)).alloc (.cells R 159)).heap[w.heap.size + 1]? = some (.cells R 159 (0, 0)) := by
  have := heap_alloc_new (w.alloc (.cells L 159)) (.cells R 159)
  simpa using this
/-- A part of a block is loaded under a guard. -/
theorem wpOp_load_part {P : Program} {w : World} {o : Oper} {a : Act} {K : Act → World → Prop} {Q : Exit → Act → World → Prop} (ty : TypeId) (x : Operand) (ho : o.op = .load ty x)
    (g off : Nat) (hx : a.eval x = .pointer (some ⟨g, off, none⟩)) {t : TypeId} {cur : Array Value} {fr : Nat × Nat} {n : Nat} {d : TypeDesc} (hg : w.heap[g]? = some (.cells cur t fr)) (hu : P.underlying ty = some d)
    (hd : d.isRow = true) (hi : (P.info? ty).map (·.size) = some n) (hfit : off + n ≤ cur.size) (cs : Array Value) (hv : cur.extract off (off + n) = cs)
    (h : K (a.put o.dst (.agg cs)) w) : Oper.wp P o a w K Q := by
  unfold Oper.wp execOp
  simp only [ho, hx, Instr.loadAt, Instr.sureAddr, Sem.run_bind, Sem.run_pure, Result.andThen_ok, run_load_part w hg hu hd hi hfit, hv]
  exact h
/-- A part of a block is loaded by a guarded operation that is wanted. -/
theorem wpList_gload_part {P : Program} {ops : Array Oper} {w : World} {rest : List Oper} {o : Oper} {a : Act} {Q : Exit → Act → World → Prop} (hw : Region.wanted o (yielded ops a.tmps) = true) (ty : TypeId) (x : Operand) (ho : o.op = .load ty x)
    (g off : Nat) (hx : a.eval x = .pointer (some ⟨g, off, none⟩)) {t : TypeId} {cur : Array Value} {fr : Nat × Nat} {n : Nat} {d : TypeDesc} (hg : w.heap[g]? = some (.cells cur t fr)) (hu : P.underlying ty = some d)
    (hd : d.isRow = true) (hi : (P.info? ty).map (·.size) = some n) (hfit : off + n ≤ cur.size) (cs : Array Value) (hv : cur.extract off (off + n) = cs)
    (h : wpList P ops Q rest (a.put o.dst (.agg cs)) w) : wpList P ops Q (o :: rest) a w :=
  wpList_step fun K hK => by
    rw [if_pos hw]
    exact wpOp_load_part ty x ho g off hx hg hu hd hi hfit cs hv (hK _ _ h)
theorem two_adds (w : World) (x y : Obj) : Adds w ((w.alloc x).alloc y) := ((Ch.refl _ _).alloc _).alloc _

end Go.Proofs.YtooijgcildbnlaaGreat.Store

/- DropKnown: what the document's examples come to; three pairs in memory. -/
import Derived.Test.YtpeebeebakjpdaaDropC
import Derived.Test.YtpeebeebakjpdaaAwake10
import Derived.Test.YtpeebeebakjpdaaPKn9
namespace Go.Proofs.Ytpeebeebakjpdaa.Law10
open Go Go.RowKit Go.Proofs.Ytpeebeebakjpdaa Go.Proofs.Ytpeebeebakjpdaa.ShaW Go.Proofs.Ytpeebeebakjpdaa.Path Go.Proofs.Ytpeebeebakjpdaa.Store Go.Proofs.Ytpeebeebakjpdaa.Law9
set_option maxHeartbeats 1600000
set_option linter.unusedVariables false

theorem three_lists {A B C Z : List Value} {n : Nat} (hA : A.length = n) (hB : B.length = n) (hC : C.length = n) (hZ : Z.length = 3 * n) :
    List.take (2 * n) (A ++ (B ++ List.drop (n + n) (A ++ List.drop n Z))) ++ (C ++ List.drop (2 * n + n) (A ++ (B ++ List.drop (n + n) (A ++ List.drop n Z)))) = A ++ (B ++ C) := by
  have e1 : List.drop (n + n) (A ++ List.drop n Z) = List.drop (2 * n) Z := by
    rw [List.drop_append, List.drop_eq_nil_of_le (by omega), hA, List.nil_append, List.drop_drop]
    congr 1
    omega
  rw [e1, ← List.append_assoc A B, List.take_left' (by rw [List.length_append]; omega), List.drop_eq_nil_of_le (by simp only [List.length_append, List.length_drop]; omega), List.append_nil, List.append_assoc]
theorem run_buildSlice_three {P : Program} (w : World) (t e : TypeId) (ie : TypeInfo) (z v u x : Value) (hu : P.underlying t = some (.slice e)) (hie : P.info? e = some ie) (hz : ie.zero = some z) (hsmall : ie.size ≤ 65536) (hpos : 0 < ie.size) (hv : v.cells.size = ie.size) (hu2 : u.cells.size = ie.size) (hx2 : x.cells.size = ie.size) :
    (Instr.buildSlice t 3 #[(0, v), (1, u), (2, x)]).run P w = .ok (.slice (some ⟨w.heap.size, 0, none⟩) 3 3) (w.alloc (.cells (v.cells ++ u.cells ++ x.cells) e)) := by
  refine run_buildSlice w t e 3 #[(0, v), (1, u), (2, x)] (v.cells ++ u.cells ++ x.cells) ie z hu hie hz (by omega) (by omega) ?_
  show Instr.fill _ _ [(0, v), (1, u), (2, x)] = _
  rw [fill_step (off := 0) (size := ie.size) (by simp) hv (by simp; omega)]
  rw [fill_step (off := ie.size) (size := ie.size) (by simp) hu2 (by simp [splice, hv]; omega)]
  rw [fill_step (off := 2 * ie.size) (size := ie.size) (by simp) hx2 (by simp [splice, hv, hu2]; omega)]
  simp only [Instr.fill, splice, Option.some.injEq]
  apply Array.ext'
  simp [hv, hu2, hx2]
  exact three_lists (by simp [hv]) (by simp [hu2]) (by simp [hx2]) (by simp)
theorem wpList_buildSlice_three {P : Program} {w : World} {ops : Array Oper} {rest : List Oper} {o : Oper} {a : Act} {Q : Exit → Act → World → Prop} (hgd : o.guard = none) (t : TypeId) (x y q : Operand) (ho : o.op = .buildSlice t 3 #[(0, x), (1, y), (2, q)])
    (e : TypeId) (ie : TypeInfo) (z v u r : Value) (hx : a.eval x = v) (hy : a.eval y = u) (hq : a.eval q = r) (hu : P.underlying t = some (.slice e)) (hie : P.info? e = some ie) (hz : ie.zero = some z) (hsmall : ie.size ≤ 65536) (hpos : 0 < ie.size) (hv : v.cells.size = ie.size) (hu2 : u.cells.size = ie.size) (hr2 : r.cells.size = ie.size)
    (h : wpList P ops Q rest (a.put o.dst (.slice (some ⟨w.heap.size, 0, none⟩) 3 3)) (w.alloc (.cells (v.cells ++ u.cells ++ r.cells) e))) : wpList P ops Q (o :: rest) a w :=
  wpList_plain hgd fun _ hK => by
    unfold Oper.wp execOp
    have := run_buildSlice_three w t e ie z v u r hu hie hz hsmall hpos hv hu2 hr2
    simp only [ho, List.map_toArray, List.map_cons, List.map_nil, hx, hy, hq, Sem.run_bind, this, Result.andThen_ok]
    exact hK _ _ h
theorem pr_builtL : Try.prog.built 32 [(0, .agg (brow keyLast))] = some (pr keyLast).cells := by kernel_rfl
theorem three_at {w : World} {g : Nat} {t : TypeId} (h : w.heap[g]? = some (.cells ((pr (keyL 0)).cells ++ (pr (keyL 128)).cells ++ (pr keyLast).cells) t (0, 0))) : PairsAt w (some ⟨g, 0, none⟩) [pr (keyL 0), pr (keyL 128), pr keyLast] := by
  have hg : ∀ k : List UInt8, k.length = 32 → (pr k).Good w := fun k hk => ⟨hk, Bytes.nil w, fun h => absurd rfl h⟩
  refine ⟨fun x hx => ?_, fun i x hx => ⟨g, 0, rfl, ?_⟩⟩
  · simp at hx
    rcases hx with rfl | rfl | rfl
    · exact hg _ rfl
    · exact hg _ rfl
    · exact hg _ rfl
  · match i, hx with
    | 0, hx =>
      simp at hx
      subst hx
      exact ⟨_, _, _, h, by decide, by kernel_rfl⟩
    | 1, hx =>
      simp at hx
      subst hx
      exact ⟨_, _, _, h, by decide, by kernel_rfl⟩
    | 2, hx =>
      simp at hx
      subst hx
      exact ⟨_, _, _, h, by decide, by kernel_rfl⟩
    | i + 3, hx => simp at hx
/-- The three maps of the examples. -/
def ent1 : Ents := upd [] (keyL 0) []
def ent2 : Ents := upd ent1 keyLast []
def ent3 : Ents := upd (upd ent1 (keyL 128) []) keyLast []
theorem ents3 : entsOf [pr (keyL 0), pr (keyL 128), pr keyLast] = ent3 := rfl
theorem leftA : without ent1 (keyL 0) = [] := by decide +kernel
theorem leftB : without ent2 keyLast = ent1 := by decide +kernel
theorem leftC : without ent3 (keyL 128) = ent2 := by decide +kernel
theorem inA : keyL 0 ∈ keysOf ent1 := by decide +kernel
theorem inB : keyLast ∈ keysOf ent2 := by decide +kernel
theorem inC : keyL 128 ∈ keysOf ent3 := by decide +kernel
theorem okB : Ents.Ok ent1 keyLast 0 := ⟨by decide, by decide, fun _ _ _ h => absurd h (Nat.not_lt_zero _)⟩
theorem okC : Ents.Ok (upd ent1 (keyL 128) []) keyLast 0 := ⟨by decide +kernel, by decide +kernel, fun _ _ _ h => absurd h (Nat.not_lt_zero _)⟩
theorem okA : Ents.Ok ent1 (keyL 128) 0 := ⟨by decide, by decide, fun _ _ _ h => absurd h (Nat.not_lt_zero _)⟩
theorem costB : looked keyLast 0 (tree 256 ent2) = 0 := by
  have h := ins_tree (L := ent1) (k := keyLast) (v := []) 256 (Nat.le_refl _) okB rfl
  unfold ent2
  rw [← h]
  decide +kernel
theorem costC : looked (keyL 128) 0 (tree 256 ent3) = 1 := by
  have h := ins_tree (L := upd ent1 (keyL 128) []) (k := keyLast) (v := []) 256 (Nat.le_refl _) okC rfl
  have h2 := ins_tree (L := ent1) (k := keyL 128) (v := []) 256 (Nat.le_refl _) okA rfl
  unfold ent3
  rw [← h, ← h2]
  decide +kernel
theorem nodesB : (tree 256 ent2).nodes = 258 := treeLast
theorem nodesA : (tree 256 ent1).nodes = 1 := rfl
/-- The first write into a store takes one slot. -/
theorem Put_first {w0 w : World} {s n : Nat} {G : Nat → Prop} {key bs : List UInt8} (h1 : 258 ≤ n) (h2 : n ≤ 65536) (h : Ow w0 w s ⟨n, [], []⟩ G) (hk : key.length = 32) {vv : Value} (hb : Bytes w vv bs) (hv : bs ≠ [] → ∀ k, vv.ownBlock = some k → k < w.heap.size) (hl : bs.length ≤ 1024) :
    Calls Try.prog 15 #[.pointer (some ⟨s, 0, none⟩), .int .i64 0, .agg (brow key), vv] w fun e w' => ∃ r σ', e = .returned (.tuple #[.int .i64 r, .int .i64 0]) ∧ Ow w0 w' s σ' G ∧ But G w w' ∧
      Db σ' r (upd [] key bs) ∧ σ'.slots.length ≤ 1 ∧ σ'.used = 1 ∧ σ'.room = n := by
  have D := Db.new n (by omega) h2
  have hz := D.good.fit.zero
  obtain ⟨l, e1, ho⟩ := On.ex (k := key) D.rep
  obtain ⟨rfl, rfl⟩ := ho.zero hz
  have hr0 := rootErr_hand D.hand
  have hk0 : (nd ⟨n, [], []⟩ 0).kind = 0 := nd_gone hz
  have hs : sameS ⟨n, [], []⟩ key bs 0 = false := by unfold sameS; rw [hk0]; rfl
  have hot : otherS ⟨n, [], []⟩ key 0 = false := by unfold otherS; rw [hk0]; rfl
  have hc := putCost_no (l := []) hot
  have htot : total (⟨n, [], []⟩ : SlabSt Nd) = 0 := rfl
  have hlive : live (⟨n, [], []⟩ : SlabSt Nd) = 0 := rfl
  have hf : fitsJ ⟨n, [], []⟩ 1 = true := by rw [fitsJ_one]; exact decide_eq_true (show 0 + 258 ≤ n by omega)
  have hin := ins_tree (v := bs) 256 (Nat.le_refl _) (Ents.Ok.any D.nodup D.len key) hk
  rw [Nat.sub_self] at hin
  refine (Put_ok h D.good 0 key hk hb hv hl D.hand hr0 hf ho hs).mono fun e w' ⟨v, he, ho', hb'⟩ => ⟨_, _, he, ho', hb', ?_⟩
  have hP := put_spec D.good hk bs v hl D.rep D.held ho (by rw [hlive, hc]; show 0 + (0 + 1) ≤ n; omega) (by rw [htot]; omega)
  have hup : upd [] key bs = [(key, bs)] := rfl
  have D' : Db (putS ⟨n, [], []⟩ 0 key bs v [] 0).2 (putS ⟨n, [], []⟩ 0 key bs v [] 0).1 (upd [] key bs) := ⟨hP.good, by rw [← hin]; exact hP.rep, by rw [hup]; simp [keysOf], fun p hp => by rw [hup] at hp; simp at hp; rw [hp]; exact hk, .inr (by rw [hP.mine]; omega)⟩
  have S' : Sole (putS ⟨n, [], []⟩ 0 key bs v [] 0).2 (putS ⟨n, [], []⟩ 0 key bs v [] 0).1 := fun k hk => by
    rcases hP.only k hk with e | ⟨h1, _⟩
    · exact ⟨e, by rw [e]; exact hP.mine⟩
    · have := (Sole.new n (-1) k h1).1
      have := (Sole.new n 0 k h1).1
      omega
  have hsp := span_put ⟨n, [], []⟩ 0 key bs v [] 0
  rw [hc] at hsp
  exact ⟨D', hsp, by rw [D'.good.used, D'.live S', hup]; rfl, hP.room⟩
end Go.Proofs.Ytpeebeebakjpdaa.Law10

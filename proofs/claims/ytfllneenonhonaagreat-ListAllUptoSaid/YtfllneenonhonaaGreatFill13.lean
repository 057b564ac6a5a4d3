/- Layer 13's statements: a store in which entries were put one behind the other; the three entries of the examples. -/
import Derived.Test.YtfllneenonhonaaGreatPutP2
import Derived.Test.YtfllneenonhonaaGreatList2
import Derived.Test.YtfllneenonhonaaGreatMapM
import Derived.Test.YtfllneenonhonaaGreatAwake9
import Derived.Lib.SlBytesConst
namespace Go.Proofs.YtfllneenonhonaaGreat.Law13
open Go Go.RowKit Go.Proofs.YtfllneenonhonaaGreat Go.Proofs.YtfllneenonhonaaGreat.ShaW Go.Proofs.YtfllneenonhonaaGreat.Path Go.Proofs.YtfllneenonhonaaGreat.Store Go.Proofs.YtfllneenonhonaaGreat.Law9
set_option maxHeartbeats 3200000
set_option linter.unusedVariables false

/-- The entries that writes lead to. -/
def entsOf (l : List Pr) : Ents := l.foldl (fun L p => upd L p.key p.val) []
theorem entsOf_next {l : List Pr} {k : Nat} {x : Pr} (hx : l[k]? = some x) : entsOf (l.take (k + 1)) = upd (entsOf (l.take k)) x.key x.val := by
  have htk : l.take (k + 1) = l.take k ++ [x] := by rw [List.take_add_one, hx]; rfl
  unfold entsOf
  rw [htk, List.foldl_append]
  rfl
/-- A store, a root that is all that is held, the entries behind it. -/
structure St13 (w0 w : World) (s : Nat) (σ : SlabSt Nd) (root : Int) (L : Ents) (n : Nat) (k : Nat) : Prop where
  own : Ow w0 w s σ (fun _ => False)
  db : Db σ root L
  room : σ.room = n
  total : Store.total σ ≤ 1000 * k
  live : Store.live σ ≤ 258 * k
  sole : Sole σ root
theorem St13.adds {w0 w w' : World} {s n k : Nat} {σ : SlabSt Nd} {root : Int} {L : Ents} (h : St13 w0 w s σ root L n k) (a : Adds w w') : St13 w0 w' s σ root L n k := ⟨h.own.adds a, h.db, h.room, h.total, h.live, h.sole⟩
set_option maxRecDepth 100000 in
theorem filled_ok {w : World} {ao : Option Addr} {l : List Pr} (cap : Nat) (hl : PairsAt w ao l) (hlen : l.length ≤ 20) (hval : ∀ x ∈ l, x.val.length ≤ 1024) :
    Calls Tryz.prog 27 #[.slice ao l.length cap] w fun e w' => ∃ s σ root, e = .returned (.tuple #[.pointer (some ⟨s, 0, none⟩), .int .i64 root, .bool true]) ∧ St13 w w' s σ root (entsOf l) 5160 l.length := by
  have HL := Lib.hid hl
  have HV := Lib.hid hval
  obtain ⟨len, hle⟩ : ∃ len, len = l.length := ⟨_, rfl⟩
  rw [← hle] at hlen ⊢
  have HLE := Lib.hid hle
  clear hl hval hle
  go_enter Tryz.func27, Tryz.ntmps27
  go_wp2_with fail
  refine (New_own 5160 w (by decide) (by decide)).mono ?_; rintro e w3 ⟨s, rfl, h3⟩
  have hs3 : St13 w w3 s ⟨5160, [], []⟩ 0 [] 5160 0 := ⟨h3.ow.less (fun _ h => h.elim), Db.new 5160 (by decide) (by decide), rfl, Nat.le_refl _, Nat.le_refl _, Sole.new _ _⟩
  have HS3 := Lib.hid hs3
  clear h3 hs3
  go_wp2_with fail
  go_loopg [6, 7, 8] len (fun g s6 s7 s8 wr => ∃ (k : Nat) (root : Int) (σ : SlabSt Nd), s6 = .int .i64 0 ∧ s7 = .int .i64 root ∧ s8 = .int .i64 k ∧ k + g = len ∧ St13 w wr s σ root (entsOf (l.take k)) 5160 k)
  case atStart => exact ⟨0, 0, _, rfl, rfl, rfl, by omega, by rw [List.take_zero]; exact HS3.out⟩
  case round =>
    obtain ⟨k, root, σ, rfl, rfl, rfl, hk, hst⟩ := hrel
    have HS := Lib.hid hst
    have HKG := Lib.hid hk
    clear HS3
    by_cases hkl : k = len
    · have hx1 : decide ((k : Int) < (len : Int)) = false := decide_eq_false (by omega)
      have hx1' : decide (k < len) = false := decide_eq_false (by omega)
      have h9 := HS.out
      rw [List.take_of_length_le (by have := HLE.out; omega), hkl] at h9
      have H9 := Lib.hid h9
      clear hk hst hkl h9
      go_wp2
      go_ret3
      exact ⟨s, σ, root, rfl, H9.out⟩
    · have hx1 : decide ((k : Int) < (len : Int)) = true := decide_eq_true (by omega)
      have hx1' : decide (k < len) = true := decide_eq_true (by omega)
      have hkl' : k < l.length := by have := HLE.out; omega
      have hklen : (k : Int) < (len : Int) := by omega
      have hklen' : k < len := by omega
      obtain ⟨x, hx⟩ : ∃ x, l[k]? = some x := ⟨_, List.getElem?_eq_getElem hkl'⟩
      obtain ⟨g0, off, rfl, hp⟩ := HL.out.2 k x hx
      have hg := HL.out.1 x (List.mem_of_getElem? hx)
      have hsz := Pr.size hg.key
      obtain ⟨cur, ty, fr, c1, c2, c3⟩ := hp
      rw [hsz] at c2 c3
      obtain ⟨ck, cv⟩ := pair_parts hg.key c3
      obtain ⟨K, hK⟩ : ∃ K, K = brow x.key := ⟨_, rfl⟩
      rw [← hK] at ck
      have HC := Lib.hid (And.intro c1 (And.intro c2 (And.intro ck cv)))
      have HX := Lib.hid (And.intro hx (And.intro hg (And.intro (HV.out x (List.mem_of_getElem? hx)) hK)))
      obtain ⟨xo, xc, hxv, _, _⟩ := hg.val.form
      clear hst hk hkl hg hsz c1 c2 c3 ck cv hK hx
      go_wp2
      refine wp_region_plan (fun w0 => w0.heap[g0]? = some (.cells cur ty fr)) 18 [(0, false), (1, false), (2, false), (3, false), (4, false), (5, false), (6, false), (7, false), (8, false), (9, false), (10, false), (11, false), (12, true), (13, false), (14, false), (15, false), (16, false), (17, false)] (by kernel_rfl) (by kernel_rfl) ?_ ?_
      · exact HS.out.own.world.drew.row HC.out.1 id
      iterate 6
        refine plan_look rfl rfl (fun w0 hS => (by clear hS; go_simp; try rfl)) ?_
        simp only [Act.put, List.setIfInBounds_toArray, List.set_cons_succ, List.set_cons_zero]
      refine plan_load_part (cur := cur) (t := ty) (fr := fr) rfl rfl 24 _ rfl g0 (off + k * 33) 32 rfl (fun w0 hS => hS) Tryz.underlying24 rfl sizeP (by have := HC.out.2.1; omega) K HC.out.2.2.1 ?_
      simp only [Act.put, List.setIfInBounds_toArray, List.set_cons_succ, List.set_cons_zero]
      iterate 4
        refine plan_look rfl rfl (fun w0 hS => (by clear hS; go_simp; try rfl)) ?_
        simp only [Act.put, List.setIfInBounds_toArray, List.set_cons_succ, List.set_cons_zero]
      refine plan_look (v := .slice xo x.val.length xc) rfl rfl (fun w0 hS => (by have e0 := row_cell hS HC.out.2.2.2; rw [hxv] at e0; clear hS; go_simp; try rfl)) ?_
      simp only [Act.put, List.setIfInBounds_toArray, List.set_cons_succ, List.set_cons_zero]
      refine plan_do rfl ?_
      go_wp2_with fail
      have hg7 := HX.out.2.1.keep (HS.out.own.world.drew) (fun _ h => h.elim)
      have hb7 := hg7.val
      have hv7 := hg7.blk
      rw [hxv] at hb7 hv7
      have hP := Put_db (HS.out.own.adds (Ch.refl _ _).drew) HS.out.db hg7.key hb7 hv7 HX.out.2.2.1 (by have := HS.out.live; rw [HS.out.room]; omega) (by have := HS.out.total; omega)
      rw [← HX.out.2.2.2] at hP
      refine hP.mono ?_; rintro e w8 ⟨r, σ', rfl, o8, b8, W8, D8, _⟩
      have hst8 : St13 w w8 s σ' r (entsOf (l.take (k + 1))) 5160 (k + 1) := ⟨o8, by rw [entsOf_next HX.out.1]; exact D8, W8.room.trans HS.out.room, by have := W8.total; have := HS.out.total; omega, by have := W8.live; have := HS.out.live; omega, W8.sole HS.out.sole⟩
      have HR := Lib.hid hst8
      clear hP hg7 hb7 hv7 o8 b8 W8 D8 hst8
      dsimp only
      go_step
      refine wpList_nil ?_
      change _ ∧ _
      refine ⟨HR.out.own.world.row HC.out.1 id, ?_⟩
      iterate 5
        refine plan_look rfl rfl (fun w0 hS => (by clear hS; go_simp; try rfl)) ?_
        simp only [Act.put, List.setIfInBounds_toArray, List.set_cons_succ, List.set_cons_zero]
      refine plan_end ?_; simp only [List.drop_succ_cons, List.drop_zero]
      go_wp2
      refine NoPanic.normal ?_
      go_wp2_with fail
      go_roundg (gk - 1)
      case measure => have := HKG.out; omega
      case rel => exact ⟨k + 1, r, σ', rfl, rfl, by simp, by have := HKG.out; omega, HR.out⟩
theorem three_lists {A B C Z : List Value} {n : Nat} (hA : A.length = n) (hB : B.length = n) (hC : C.length = n) (hZ : Z.length = 3 * n) :
    List.take (2 * n) (A ++ (B ++ List.drop (n + n) (A ++ List.drop n Z))) ++ (C ++ List.drop (2 * n + n) (A ++ (B ++ List.drop (n + n) (A ++ List.drop n Z)))) = A ++ (B ++ C) := by
  have e1 : List.drop (n + n) (A ++ List.drop n Z) = List.drop (2 * n) Z := by
    rw [List.drop_append, List.drop_eq_nil_of_le (by omega), hA, List.nil_append, List.drop_drop]
    congr 1
    omega
  rw [e1, ← List.append_assoc A B, List.take_left' (by rw [List.length_append]; omega), List.drop_eq_nil_of_le (by simp only [List.length_append, List.length_drop]; omega), List.append_nil, List.append_assoc]
theorem run_buildSlice_three {P : Program} (w : World) (t e : TypeId) (ie : TypeInfo) (z v u x : Value) (hu : P.underlying t = some (.slice e)) (hie : P.info? e = some ie) (hz : ie.zero = some z) (hsmall : ie.size ≤ 65536) (hpos : 0 < ie.size) (hv : v.cells.size = ie.size) (hu2 : u.cells.size = ie.size) (hx2 : x.cells.size = ie.size) :
    (Instr.buildSlice t 3 #[(0, v), (1, u), (2, x)]).run P w = .ok (.slice (some ⟨w.heap.size, 0, none⟩) 3 3) (w.alloc (.cells (v.cells ++ u.cells ++ x.cells) e)) := by
  refine run_buildSlice w t e 3 #[(0, v), (1, u), (2, x)] (v.cells ++ u.cells ++ x.cells) ie z hu hie hz (by omega) (by omega) ?_
  show Instr.fill _ _ [(0, v), (1, u), (2, x)] = _
  rw [fill_step (off := 0) (size := ie.size) (by simp) hv (by simp; omega)]
  rw [fill_step (off := ie.size) (size := ie.size) (by simp) hu2 (by simp [splice, hv]; omega)]
  rw [fill_step (off := 2 * ie.size) (size := ie.size) (by simp) hx2 (by simp [splice, hv, hu2]; omega)]
  simp only [Instr.fill, splice, Option.some.injEq]
  apply Array.ext'
  simp [hv, hu2, hx2]
  exact three_lists (by simp [hv]) (by simp [hu2]) (by simp [hx2]) (by simp)
theorem wpList_buildSlice_three {P : Program} {w : World} {ops : Array Oper} {rest : List Oper} {o : Oper} {a : Act} {Q : Exit → Act → World → Prop} (hgd : o.guard = none) (t : TypeId) (x y q : Operand) (ho : o.op = .buildSlice t 3 #[(0, x), (1, y), (2, q)])
    (e : TypeId) (ie : TypeInfo) (z v u r : Value) (hx : a.eval x = v) (hy : a.eval y = u) (hq : a.eval q = r) (hu : P.underlying t = some (.slice e)) (hie : P.info? e = some ie) (hz : ie.zero = some z) (hsmall : ie.size ≤ 65536) (hpos : 0 < ie.size) (hv : v.cells.size = ie.size) (hu2 : u.cells.size = ie.size) (hr2 : r.cells.size = ie.size)
    (h : wpList P ops Q rest (a.put o.dst (.slice (some ⟨w.heap.size, 0, none⟩) 3 3)) (w.alloc (.cells (v.cells ++ u.cells ++ r.cells) e))) : wpList P ops Q (o :: rest) a w :=
  wpList_plain hgd fun _ hK => by
    unfold Oper.wp execOp
    have := run_buildSlice_three w t e ie z v u r hu hie hz hsmall hpos hv hu2 hr2
    simp only [ho, List.map_toArray, List.map_cons, List.map_nil, hx, hy, hq, Sem.run_bind, this, Result.andThen_ok]
    exact hK _ _ h

theorem key_built64 : Tryz.prog.built 24 [(0, .int .u8 64)] = some (brow (keyL 64)) := by kernel_rfl
theorem one_byte {w : World} {g : Nat} {b : UInt8} {fr : Nat × Nat} {t : TypeId} (h : w.heap[g]? = some (.cells #[.int .u8 (b.toNat : Int)] t fr)) : Bytes w (.slice (some ⟨g, 0, none⟩) 1 1) [b] :=
  ⟨_, 1, rfl, Nat.le_refl _, by decide, fun j y hy => by
    match j, hy with
    | 0, hy =>
      simp at hy
      subst hy
      exact ⟨g, 0, rfl, row_cell h rfl⟩
    | j + 1, hy => simp at hy⟩
theorem one_pair (k : List UInt8) (v : Value) (b : List UInt8) : (Pr.mk k v b).cells = brow k ++ #[v] := by
  apply Array.ext'
  simp [Pr.cells, brow]
theorem rowP_of {w : World} {g : Nat} {L : List Pr} {C : Array Value} (hg : w.heap[g]? = some (.cells C 81 (0, 0))) (hC : C.toList = flatP L) (hk : KeyOk L) (hm : L.length ≤ maxLen) : RowP w 0 (.slice (some ⟨g, 0, none⟩) L.length L.length) L := by
  have hl := flatP_length L hk
  refine ⟨hl, .inr ⟨g, L.length, C, rfl, Nat.zero_le _, hg, Nat.le_refl _, hm, ?_, ?_⟩⟩
  · rw [← Array.length_toList, hC, hl]
  · rw [hC]; exact List.take_of_length_le (by rw [hl]; exact Nat.le_refl _)
/-- The three entries of the examples. -/
def ents3 : Ents := [(keyL 0, [97]), (keyL 64, [98]), (keyL 128, [99])]
set_option maxHeartbeats 800000 in
set_option maxRecDepth 100000 in
theorem three_ok (w : World) : Calls Tryz.prog 68 #[] w fun e w' => ∃ ao l, e = .returned (.slice ao 3 3) ∧ PairsAt w' ao l ∧ l.length = 3 ∧ l.map Pr.ent = ents3 ∧ (∀ x ∈ l, x.val.length ≤ 1024) ∧ Adds w w' := by
  obtain ⟨K0, hK0⟩ : ∃ K, K = brow (keyL 0) := ⟨_, rfl⟩
  obtain ⟨K1, hK1⟩ : ∃ K, K = brow (keyL 64) := ⟨_, rfl⟩
  obtain ⟨K2, hK2⟩ : ∃ K, K = brow (keyL 128) := ⟨_, rfl⟩
  have hb0 := key_built
  have hb1 := key_built64
  have hb2 := key_built1
  rw [← hK0] at hb0
  rw [← hK1] at hb1
  rw [← hK2] at hb2
  have hs : K0.size = 32 ∧ K1.size = 32 ∧ K2.size = 32 := by rw [hK0, hK1, hK2]; exact ⟨rfl, rfl, rfl⟩
  have hp := fun (T : Array Value) (ao : Option Addr) (n c : Nat) (hT : T.size = 32) => pair_built T ao n c hT
  obtain ⟨i0, z0, p1, p2, p3, p4, p5⟩ := pair_info
  have HB := Lib.hid (And.intro hb0 (And.intro hb1 hb2))
  have HS := Lib.hid hs
  have HI := Lib.hid (And.intro p1 (And.intro p2 p3))
  have HK := Lib.hid (And.intro hK0 (And.intro hK1 hK2))
  have HP := Lib.hid hp
  have kc0 := Lib.run_convert_bytes_const (P := Tryz.prog) w 58 5 #[.int .u8 97] 1 1 Tryz.underlying58 Tryz.underlying5
  have kc1 := Lib.run_convert_bytes_const (P := Tryz.prog) (w.alloc (.cells #[.int .u8 97] 5 (1, 2))) 58 5 #[.int .u8 98] 1 1 Tryz.underlying58 Tryz.underlying5
  have kc2 := Lib.run_convert_bytes_const (P := Tryz.prog) ((w.alloc (.cells #[.int .u8 97] 5 (1, 2))).alloc (.cells #[.int .u8 98] 5 (1, 2))) 58 5 #[.int .u8 99] 1 1 Tryz.underlying58 Tryz.underlying5
  simp only [World.size_alloc, List.size_toArray, List.length_cons, List.length_nil, Nat.zero_add, Nat.reduceAdd] at kc0 kc1 kc2
  obtain ⟨C0, hC0⟩ : ∃ C, C = K0 ++ #[.slice (some ⟨w.heap.size, 0, none⟩) 1 1] := ⟨_, rfl⟩
  obtain ⟨C1, hC1⟩ : ∃ C, C = K1 ++ #[.slice (some ⟨w.heap.size + 1, 0, none⟩) 1 1] := ⟨_, rfl⟩
  obtain ⟨C2, hC2⟩ : ∃ C, C = K2 ++ #[.slice (some ⟨w.heap.size + 1 + 1, 0, none⟩) 1 1] := ⟨_, rfl⟩
  have e0 := hp K0 (some ⟨w.heap.size, 0, none⟩) 1 1 hs.1
  have e1 := hp K1 (some ⟨w.heap.size + 1, 0, none⟩) 1 1 hs.2.1
  have e2 := hp K2 (some ⟨w.heap.size + 1 + 1, 0, none⟩) 1 1 hs.2.2
  rw [← hC0] at e0
  rw [← hC1] at e1
  rw [← hC2] at e2
  have hcs : C0.size = 33 ∧ C1.size = 33 ∧ C2.size = 33 := by rw [hC0, hC1, hC2]; simp [hs.1, hs.2.1, hs.2.2]
  have HE := Lib.hid (And.intro e0 (And.intro e1 e2))
  have HCS := Lib.hid hcs
  have HC := Lib.hid (And.intro hC0 (And.intro hC1 hC2))
  clear hb0 hb1 hb2 hs hp p1 p2 p3 p4 p5 hK0 hK1 hK2 hC0 hC1 hC2 e0 e1 e2 hcs HP
  go_enter Tryz.func68, Tryz.ntmps68
  go_wp2_with (first
    | fail
    | ((with_reducible show wpList _ _ _ (⟨_, .build 24 #[], _, _, _, _⟩ :: _) _ _); refine wpList_build_none rfl 24 rfl K0 HB.out.1 ?_)
    | ((with_reducible show wpList _ _ _ (⟨_, .build 24 #[(0, .const (.int .u8 64))], _, _, _, _⟩ :: _) _ _); refine wpList_build_one rfl 24 0 _ rfl (.int .u8 64) rfl K1 HB.out.2.1 ?_)
    | ((with_reducible show wpList _ _ _ (⟨_, .build 24 _, _, _, _, _⟩ :: _) _ _); refine wpList_build_one rfl 24 0 _ rfl (.int .u8 128) rfl K2 HB.out.2.2 ?_)
    | ((with_reducible show wpList _ _ _ (⟨_, .build 81 #[(0, .tmp 1), (1, .tmp 3)], _, _, _, _⟩ :: _) _ _); refine wpList_build_two rfl 81 0 1 _ _ rfl _ _ rfl rfl C0 HE.out.1 ?_)
    | ((with_reducible show wpList _ _ _ (⟨_, .build 81 #[(0, .tmp 5), (1, .tmp 7)], _, _, _, _⟩ :: _) _ _); refine wpList_build_two rfl 81 0 1 _ _ rfl _ _ rfl rfl C1 HE.out.2.1 ?_)
    | ((with_reducible show wpList _ _ _ (⟨_, .build 81 #[(0, .tmp 9), (1, .tmp 11)], _, _, _, _⟩ :: _) _ _); refine wpList_build_two rfl 81 0 1 _ _ rfl _ _ rfl rfl C2 HE.out.2.2 ?_)
    | ((with_reducible show wpList _ _ _ (⟨_, .buildSlice 33 _ _, _, _, _, _⟩ :: _) _ _); refine wpList_buildSlice_three rfl 33 _ _ _ rfl 81 i0 z0 (.agg C0) (.agg C1) (.agg C2) rfl rfl rfl Tryz.underlying33 HI.out.1 HI.out.2.1 (by rw [HI.out.2.2]; decide) (by rw [HI.out.2.2]; decide) (by rw [HI.out.2.2]; exact HCS.out.1) (by rw [HI.out.2.2]; exact HCS.out.2.1) (by rw [HI.out.2.2]; exact HCS.out.2.2) ?_; dsimp only [Value.cells]))
  go_ret
  have hg0 := heap_alloc_new w (.cells #[.int .u8 97] 5 (1, 2))
  have hg1 := heap_alloc_new (w.alloc (.cells #[.int .u8 97] 5 (1, 2))) (.cells #[.int .u8 98] 5 (1, 2))
  have hg2 := heap_alloc_new ((w.alloc (.cells #[.int .u8 97] 5 (1, 2))).alloc (.cells #[.int .u8 98] 5 (1, 2))) (.cells #[.int .u8 99] 5 (1, 2))
  have hg3 := heap_alloc_new (((w.alloc (.cells #[.int .u8 97] 5 (1, 2))).alloc (.cells #[.int .u8 98] 5 (1, 2))).alloc (.cells #[.int .u8 99] 5 (1, 2))) (.cells (C0 ++ (C1 ++ C2)) 81)
  simp only [World.size_alloc] at hg1 hg2 hg3
  obtain ⟨w9, hw9⟩ : ∃ w9, w9 = ((((w.alloc (.cells #[.int .u8 97] 5 (1, 2))).alloc (.cells #[.int .u8 98] 5 (1, 2))).alloc (.cells #[.int .u8 99] 5 (1, 2))).alloc (.cells (C0 ++ (C1 ++ C2)) 81)) := ⟨_, rfl⟩
  rw [← hw9] at hg3 ⊢
  have r0 : w9.heap[w.heap.size]? = some (.cells #[.int .u8 97] 5 (1, 2)) := by rw [hw9]; exact row_alloc (row_alloc (row_alloc hg0 _) _) _
  have r1 : w9.heap[w.heap.size + 1]? = some (.cells #[.int .u8 98] 5 (1, 2)) := by rw [hw9]; exact row_alloc (row_alloc hg1 _) _
  have r2 : w9.heap[w.heap.size + 1 + 1]? = some (.cells #[.int .u8 99] 5 (1, 2)) := by rw [hw9]; exact row_alloc hg2 _
  have a9 : Adds w w9 := by rw [hw9]; exact ((((Ch.refl _ _).alloc _).alloc _).alloc _).alloc _
  clear hw9 hg0 hg1 hg2 kc0 kc1 kc2
  have c0 : C0 = (Pr.mk (keyL 0) (.slice (some ⟨w.heap.size, 0, none⟩) 1 1) [97]).cells := by rw [HC.out.1, HK.out.1, one_pair]
  have c1 : C1 = (Pr.mk (keyL 64) (.slice (some ⟨w.heap.size + 1, 0, none⟩) 1 1) [98]).cells := by rw [HC.out.2.1, HK.out.2.1, one_pair]
  have c2 : C2 = (Pr.mk (keyL 128) (.slice (some ⟨w.heap.size + 1 + 1, 0, none⟩) 1 1) [99]).cells := by rw [HC.out.2.2, HK.out.2.2, one_pair]
  obtain ⟨L, hL⟩ : ∃ L, L = [Pr.mk (keyL 0) (.slice (some ⟨w.heap.size, 0, none⟩) 1 1) [97], Pr.mk (keyL 64) (.slice (some ⟨w.heap.size + 1, 0, none⟩) 1 1) [98], Pr.mk (keyL 128) (.slice (some ⟨w.heap.size + 1 + 1, 0, none⟩) 1 1) [99]] := ⟨_, rfl⟩
  have good : ∀ x ∈ L, x.Good w9 := fun x hx => by
    rw [hL] at hx
    simp only [List.mem_cons, List.not_mem_nil, or_false] at hx
    rcases hx with rfl | rfl | rfl
    · exact ⟨rfl, one_byte (b := 97) r0, fun _ k hk => by cases hk; exact row_lt r0⟩
    · exact ⟨rfl, one_byte (b := 98) r1, fun _ k hk => by cases hk; exact row_lt r1⟩
    · exact ⟨rfl, one_byte (b := 99) r2, fun _ k hk => by cases hk; exact row_lt r2⟩
  have h3 : L.length = 3 := by rw [hL]; rfl
  have hent : L.map Pr.ent = ents3 := by rw [hL]; rfl
  have hval : ∀ x ∈ L, x.val.length ≤ 1024 := fun x hx => by
    rw [hL] at hx
    simp only [List.mem_cons, List.not_mem_nil, or_false] at hx
    rcases hx with rfl | rfl | rfl
    · exact (by decide : 1 ≤ 1024)
    · exact (by decide : 1 ≤ 1024)
    · exact (by decide : 1 ≤ 1024)
  have he : (C0 ++ (C1 ++ C2)).toList = flatP L := by
    rw [hL, c0, c1, c2]
    simp [flatP]
  clear hL c0 c1 c2
  have hrow := rowP_of hg3 he (fun x hx => (good x hx).key) (by rw [h3]; decide)
  rw [h3] at hrow
  obtain ⟨ao, cap, hv, hpat⟩ := RowP.pairs hrow good
  rw [h3] at hv
  injection hv with v1 v2 v3
  subst v1
  exact ⟨_, L, rfl, hpat, h3, hent, hval, a9⟩
end Go.Proofs.YtfllneenonhonaaGreat.Law13

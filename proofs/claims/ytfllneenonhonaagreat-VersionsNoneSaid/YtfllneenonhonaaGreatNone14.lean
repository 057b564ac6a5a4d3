/- VersionsNone: all is answered as of no versions: what comes in, the walk. -/
import Derived.Test.YtfllneenonhonaaGreatOne14
import Derived.Test.YtfllneenonhonaaGreatVersZ
import Derived.Test.YtfllneenonhonaaGreatInStr
namespace Go.Proofs.YtfllneenonhonaaGreat.Law14
open Go Go.RowKit Go.Proofs.YtfllneenonhonaaGreat Go.Proofs.YtfllneenonhonaaGreat.ShaW Go.Proofs.YtfllneenonhonaaGreat.Path Go.Proofs.YtfllneenonhonaaGreat.Store Go.Proofs.YtfllneenonhonaaGreat.Law9 Go.Deep Go.ChangeShapes Go.WideShapes Go.ChangeAt
set_option maxHeartbeats 1600000
set_option linter.unusedVariables false

/-- A call that comes in: its name and its handle are read. -/
def InAct14 (W : World) (v : Value) : Prop := ∃ (C : Array Value) (S : ByteArray) (h : Int), v = .agg C ∧ C[1]? = some (.string S) ∧ C[2]? = some (.int .i64 h) ∧ C.size = 38
theorem cells_act14 : Tryz.prog.cellsOf 62 = 38 := by kernel_rfl
theorem cells_str : Tryz.prog.cellsOf 9 = 1 := by kernel_rfl
section
variable {H : Type} {enc : TypeId × Value → H} {W : World} {base : Nat} {v : Value} {d : DataW H} {p : List MemPlace}
set_option maxRecDepth 100000 in
theorem in_act14 (hv : Value.okWide Tryz.prog W .any base 62 v)
    (h : DataW.Trod enc Tryz.prog W 0 (fun _ => true) true 62 v d p) : InAct14 W v := by
  obtain ⟨cs, rfl, hsz⟩ := okWide_struct Tryz.underlying62 hv
  obtain ⟨m, hm⟩ := h
  obtain ⟨xs, m, rfl, hx, hl, hxl, hf⟩ := DataW.trod_struct Tryz.underlying62 hm
  rw [cells_act14] at hl
  have hx4 : xs.length = 4 := hxl
  have g := fun i (hi : i < 4) => (List.getElem?_eq_getElem (l := xs) (i := i) (by omega))
  have f1 := hf 1 ⟨ "Name", 9, 1, false, "", "", 8⟩ rfl
  have f2 := hf 2 ⟨ "H", 3, 2, false, "", "", 24⟩ rfl
  rw [g 1 (by omega)] at f1
  rw [g 2 (by omega)] at f2
  simp only [cells_int, cells_str] at f1 f2
  obtain ⟨s, e1, _, _⟩ := DataW.trod_string Tryz.underlying9 f1
  obtain ⟨n, e2, _, _⟩ := DataW.trod_int Tryz.underlying3 f2
  have hcl : cs.toList.length = 38 := hl
  refine ⟨cs, s, n, rfl, ?_, ?_, by simpa using hcl⟩
  · have := congrArg (fun l => l[0]?) e1
    simpa [Value.cells] using this
  · have := congrArg (fun l => l[0]?) e2
    simpa [Value.cells] using this
end
set_option maxRecDepth 100000 in
theorem none14_ok {w : World} {v : Value} (h : NoVers w v) (C : Array Value) (S : ByteArray) (hh : Int) (c1 : C[1]? = some (.string S)) (c2 : C[2]? = some (.int .i64 hh)) :
    Calls Tryz.prog 23 #[v, .agg C] w fun e w' => e = .returned (.bool true) ∧ Adds w w' := by
  have ha : Adds w (w.alloc (.cells C 62)) := (Ch.refl _ _).alloc _
  have d1 := row_cell (heap_alloc_new w (.cells C 62)) c1
  have d2 := row_cell (heap_alloc_new w (.cells C 62)) c2
  have HV := Lib.hid (h.adds ha)
  have HA := Lib.hid ha
  clear h c1 c2 ha
  go_enter Tryz.func23, Tryz.ntmps23
  go_wp2_with fail
  refine (VRoot_z HV.out _).mono ?_; rintro e w1 ⟨rfl, rfl⟩
  go_wp2_with fail
  refine (VDrop_z HV.out _).mono ?_; rintro e w1 ⟨rfl, rfl⟩
  go_wp2_with fail
  refine (VMove_z HV.out _ _).mono ?_; rintro e w1 ⟨rfl, rfl⟩
  go_wp2_with fail
  refine (VAdd_z HV.out _ _).mono ?_; rintro e w1 ⟨rfl, rfl⟩
  go_wp2_with fail
  refine (VNames_z HV.out).mono ?_; rintro e w1 ⟨rfl, rfl⟩
  go_wp2_with fail
  refine (VRoots_z HV.out).mono ?_; rintro e w1 ⟨rfl, rfl⟩
  go_wp2_with fail
  refine (VLen_z HV.out).mono ?_; rintro e w1 ⟨rfl, rfl⟩
  go_wp2_with fail
  refine (VStore_z HV.out).mono ?_; rintro e w1 ⟨rfl, rfl⟩
  go_wp2
  go_ret
  exact ⟨rfl, HA.out⟩
set_option maxRecDepth 100000 in
theorem none14_law (C : Array Value) (S : ByteArray) (hh : Int) (c1 : C[1]? = some (.string S)) (c2 : C[2]? = some (.int .i64 hh)) (hs : C.size = 38) (w : World) :
    Calls Tryz.prog 4 #[.agg C] w fun e w' => e = .returned (.bool true) ∧ Adds w w' := by
  have hi : (Tryz.prog.info? 62).map (·.size) = some 38 := by kernel_rfl
  have ha : Adds w (w.alloc (.cells C 62)) := (Ch.refl _ _).alloc _
  have hr := heap_alloc_new w (.cells C 62)
  have hn1 := fun w1 => none14_ok (w := w1) (v := .pointer none) (.inl rfl) C S hh c1 c2
  have hn2 := fun w1 (b : Nat) (h : w1.heap[b]? = some (.cells #[.pointer none, .map none] 69 (0, 0))) => none14_ok (w := w1) (v := .pointer (some ⟨b, 0, none⟩)) (.inr ⟨b, rfl, h⟩) C S hh c1 c2
  have HN := Lib.hid (And.intro hn1 hn2)
  have HA := Lib.hid (And.intro ha hr)
  have HS := Lib.hid (And.intro hs hi)
  clear hn1 hn2 ha hr hs hi c1 c2
  go_enter Tryz.func4, Tryz.ntmps4
  go_wp2_with fail
  refine (VNew_z (.inl rfl)).mono ?_; rintro e w1 ⟨rfl, rfl⟩
  go_wp2_with (first
    | fail
    | ((with_reducible show wpList _ _ _ (⟨_, .load 62 _, _, _, _, _⟩ :: _) _ _); refine wpList_load_part rfl 62 _ rfl w.heap.size 0 rfl HA.out.2 Tryz.underlying62 rfl HS.out.2 (by rw [HS.out.1]; omega) C (by have := HS.out.1; simp [← this]) ?_))
  refine (HN.out.1 _).mono ?_; rintro e w2 ⟨rfl, a2⟩
  have A2 := Lib.hid (And.intro (HA.out.1.trans a2 (fun _ h => h.elim)) (a2.row HA.out.2 id))
  clear a2
  go_wp2_with (first
    | fail
    | ((with_reducible show wpList _ _ _ (⟨_, .load 62 _, _, _, _, _⟩ :: _) _ _); refine wpList_gload_part (by first | rfl | (simp [Region.wanted]; done)) 62 _ rfl w.heap.size 0 rfl (row_alloc A2.out.2 _) Tryz.underlying62 rfl HS.out.2 (by rw [HS.out.1]; omega) C (by have := HS.out.1; simp [← this]) ?_))
  refine (HN.out.2 _ _ (heap_alloc_new _ _)).mono ?_; rintro e w3 ⟨rfl, a3⟩
  have A3 := Lib.hid ((A2.out.1.alloc _).trans a3 (fun _ h => h.elim))
  clear a3
  go_wp2_with fail
  refine (awake_ok _).mono ?_; rintro e w4 ⟨rfl, a4⟩
  have A4 := Lib.hid (A3.out.trans a4 (fun _ h => h.elim))
  clear a4
  go_wp2
  go_ret
  exact ⟨rfl, A4.out⟩
end Go.Proofs.YtfllneenonhonaaGreat.Law14

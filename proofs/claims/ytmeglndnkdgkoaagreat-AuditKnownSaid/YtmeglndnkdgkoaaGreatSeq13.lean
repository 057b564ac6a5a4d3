/- list.over: the entries handed over one by one, each value in new memory. -/
import Derived.Test.YtmeglndnkdgkoaaGreatKit13
import Derived.Test.YtmeglndnkdgkoaaGreatRangeY
import Derived.Test.YtmeglndnkdgkoaaGreatLawsA
import Derived.RangeFuncNested
import Derived.RangeFuncBound
import Derived.RangeFuncCalls
import Derived.RangeFuncLeaves
import Derived.OwnWalkIn
import Derived.TacticsInMore
import Derived.LoopNIn
import Derived.LoopIn
import Derived.Stop.RegionWithIn
namespace Go.Proofs.YtmeglndnkdgkoaaGreat.Store
open Go Go.RowKit Go.Sort Go.Proofs.YtmeglndnkdgkoaaGreat Go.Proofs.YtmeglndnkdgkoaaGreat.ShaW Go.Proofs.YtmeglndnkdgkoaaGreat.Path Go.Proofs.YtmeglndnkdgkoaaGreat.Law9
set_option maxHeartbeats 6400000
set_option linter.unusedVariables false

section
variable {F : Fence} {n : Nat} {P : Program} {w : World} {ops : Array Oper} {rest : List Oper} {o : Oper} {a : Act} {Q : Exit → Act → World → Prop}
theorem wpListIn_load_part (hgd : o.guard = none) (ty : TypeId) (x : Operand) (ho : o.op = .load ty x)
    (g off : Nat) (hx : a.eval x = .pointer (some ⟨g, off, none⟩)) {t : TypeId} {cur : Array Value} {fr : Nat × Nat} {m : Nat} {d : TypeDesc} (hg : w.heap[g]? = some (.cells cur t fr)) (hu : P.underlying ty = some d)
    (hd : d.isRow = true) (hi : (P.info? ty).map (·.size) = some m) (hfit : off + m ≤ cur.size) (cs : Array Value) (hv : cur.extract off (off + m) = cs)
    (h : wpListIn F n P ops Q rest (a.put o.dst (.agg cs)) w) : wpListIn F n P ops Q (o :: rest) a w :=
  wpListIn_plain hgd fun _ hK => by
    unfold Oper.wpIn
    refine ⟨?_, ?_⟩
    · simp [Oper.about, ho]
    · rw [Oper.semAt_plain F _ _ (by rw [ho]; intro c hc'; cases hc')]
      unfold execOp
      simp only [ho, hx, Instr.loadAt, Instr.sureAddr, Sem.run_bind, Sem.run_pure, Result.andThen_ok, run_load_part w hg hu hd hi hfit, hv]
      exact hK _ _ h
theorem wpListIn_store_part (hgd : o.guard = none) (ty : TypeId) (x y : Operand) (ho : o.op = .store ty x y)
    (g off : Nat) (cells : Array Value) (hx : a.eval x = .pointer (some ⟨g, off, none⟩)) (hy : a.eval y = .agg cells) {t : TypeId} {cur : Array Value} (hg : w.heap[g]? = some (.cells cur t (0, 0)))
    (hi : (P.info? ty).map (·.size) = some cells.size) (hfit : off + cells.size ≤ cur.size) (h1 : ∀ v ∈ cells.toList, v.oneCell' = true)
    (new : Array Value) (hn : (splice cur.toList off cells.toList).toArray = new) (h : wpListIn F n P ops Q rest (a.put o.dst undef) (w.setRow g new)) : wpListIn F n P ops Q (o :: rest) a w :=
  wpListIn_plain hgd fun _ hK => by
    unfold Oper.wpIn
    refine ⟨?_, ?_⟩
    · simp [Oper.about, ho]
    · rw [Oper.semAt_plain F _ _ (by rw [ho]; intro c hc'; cases hc')]
      unfold execOp
      simp only [ho, hx, hy, Instr.storeAt, Instr.sureAddr, Sem.run_bind, Sem.run_pure, Result.andThen_ok, run_store_part w hg hi hfit h1, hn]
      exact hK _ _ h
theorem wpListIn_alloc_is (hgd : o.guard = none) (ty : TypeId) (ho : o.op = .alloc ty)
    (z : Value) (hz : (P.info? ty).bind (·.zero) = some z) (h : wpListIn F n P ops Q rest (a.put o.dst (.pointer (some ⟨w.heap.size, 0, none⟩))) (w.alloc (.cells z.cells ty))) : wpListIn F n P ops Q (o :: rest) a w :=
  wpListIn_plain hgd fun _ hK => by
    cases hq : P.info? ty with
    | none => simp [hq] at hz
    | some i =>
      have hz' : i.zero = some z := by simpa [hq] using hz
      unfold Oper.wpIn
      refine ⟨?_, ?_⟩
      · simp [Oper.about, ho]
      · rw [Oper.semAt_plain F _ _ (by rw [ho]; intro c hc'; cases hc')]
        unfold execOp
        simp [ho, Instr.alloc, zeroValue, typeInfo, hq, hz', newVar, newRow]
        exact hK _ _ h
end
section
variable {F : Fence} {n : Nat} {P : Program} {w w' : World} {o : Oper} {a : Act} {Q : Exit → Act → World → Prop} {K : Act → World → Prop} {y : Operand → Value}
theorem stepIn_run {ops : Array Oper} (hgd : o.guard = none) (hab : ∀ f, o.about P w a.eval = some f → F.fn f) (hpl : Oper.semAt F.round a.eval o = execOp a.eval o) {v : Value} (hrun : (execOp a.eval o).run P w = .ok (.value v) w') (h : K (a.put o.dst v) w') :
    if Region.wanted o (yielded ops a.tmps) = true then Oper.wpIn F n P o a w K Q else (∀ f, o.about P w a.eval = some f → F.fn f) ∧ K (a.put o.dst undef) w := by
  rw [if_pos (by simp [Region.wanted, hgd])]
  unfold Oper.wpIn
  refine ⟨hab, ?_⟩
  rw [hpl, hrun]
  exact h
theorem exec_load {ty : TypeId} {x : Operand} (ho : o.op = .load ty x) {p : Addr} (hx : a.eval x = .pointer (some p)) {v : Value} (h : (loadVar ty p).run P w = .ok v w) : (execOp a.eval o).run P w = .ok (.value v) w := by
  unfold execOp
  simp only [ho, hx, Instr.loadAt, Instr.sureAddr, Sem.run_bind, Sem.run_pure, Result.andThen_ok, h]
theorem exec_append {s x : Operand} {t : TypeId} (ho : o.op = .call { callee := .builtin .append, args := #[s, x], argTypes := #[t, t] }) {v : Value} (h : (Builtin.append_ #[t, t] o.type #[a.eval s, a.eval x]).run P w = .ok v w') : (execOp a.eval o).run P w = .ok (.value v) w' := by
  simp [execOp, ho, resolve, invoke, builtin, h, Result.andThen]
end
theorem Adds.grownBy {w w' : World} (h : Adds w w') : w.grownBy w' none := ⟨h.os, h.tape, h.output, h.size, fun k hk _ => h.block k hk id⟩
theorem over_ok (ao : Option Addr) (n c : Nat) (w : World) :
    Calls Tryz.prog 109 #[.slice ao n c] w fun e w' => e = .returned (.func (.func 175) #[] #[.pointer (some ⟨w.heap.size, 0, none⟩)]) ∧ w.alloc (.cells #[.slice ao n c] 63) = w' := by
  go_enter Tryz.func109, Tryz.ntmps109
  go_wp2
  go_ret
  exact ⟨rfl, rfl⟩
theorem take_step' {l : List Pr} {i : Nat} {x : Pr} (hx : l[i]? = some x) : l.take (i + 1) = l.take i ++ [x] := by rw [List.take_add_one, hx]; rfl
/-- What is known of a pair that is handed over: the next one, its value in a row of its own. -/
def Yv (n0 : Nat) (out : List Pr) (pre : List Pr) (x : Pr) (W : World) : Prop :=
  ∃ y, out[pre.length]? = some y ∧ x.ent = y.ent ∧ x.key.length = 32 ∧ x.val.length ≤ 1024 ∧ BytesRow W n0 x.vv x.val
theorem below_cell' {B : Nat} {w w' : World} (h : Below B w w') {p : Addr} {v : Value} (hc : w.cell? p = some v) (hp : p.block < B) : w'.cell? p = some v := (h.cell (p := p) hp).trans hc
set_option maxRecDepth 100000 in
theorem overSeq (n : Nat) (hn : 1 ≤ n) (b base : Nat) (v : Value) (out : List Pr) (w : World)
    (hrow : w.heap[b]? = some (.cells #[v] 63 (0, 0))) (ht : Told base w v out) (hlen : out.length ≤ 65536) (hval : ∀ x ∈ out, x.val.length ≤ 1024) :
    SeqY Fence.wide n Tryz.prog 175 #[.pointer (some ⟨b, 0, none⟩)] (fun x : Pr => #[.agg (brow x.key), x.vv]) (Yv w.heap.size out) (Below w.heap.size) (fun ys => ys.map Pr.ent = out.map Pr.ent) (fun pre => pre.map Pr.ent <+: out.map Pr.ent) out.length w := by
  intro l J Jx W hW hJ hJx hY h0
  have HY := Lib.hid hY
  have HJA := Lib.hid hJ
  obtain ⟨ao, cap, rfl⟩ := ht.row.form
  obtain ⟨m, hm⟩ : ∃ m, m = out.length := ⟨_, rfl⟩
  have hb := row_lt hrow
  have c1 : W.cell? ⟨b, 0, none⟩ = some (.slice ao m cap) := by rw [hm]; exact below_cell' hW (row_cell hrow rfl) hb
  have HB := Lib.hid hW
  have HT := Lib.hid ht
  have HV := Lib.hid hval
  have HM := Lib.hid hm
  have hm65 : m ≤ 65536 := by omega
  obtain ⟨Z, hZ⟩ : ∃ Z, Z = zPair := ⟨_, rfl⟩
  obtain ⟨hz0, hz1, hz2, hz3⟩ := pair_z
  rw [← hZ] at hz0 hz1
  have HZ := Lib.hid (And.intro hz0 hz1)
  obtain ⟨i8, p1, p2, p3, p4⟩ := info8
  have HI := Lib.hid (And.intro p1 (And.intro p2 (And.intro p3 p4)))
  clear hY hJ hJx hrow hm hW ht hval hZ hz0 hz1 hz2 hz3 p1 p2 p3 p4 hlen
  refine callsIn_of_wp Tryz.func175 rfl trivial ?_ rfl
  simp only [Tryz.ntmps175, List.size_toArray, List.length_cons, List.length_nil, Nat.reduceAdd, Nat.reduceSub, Array.replicate_succ, Array.replicate_zero, List.push_toArray, List.append_toArray, List.nil_append, List.cons_append]
  gi_wp2
  gi_loopw [7] (fun i wr => ∃ (k : Nat) (ys : List Pr), k ≤ m ∧ i = .int .i64 k ∧ ys.map Pr.ent = (out.take k).map Pr.ent ∧ J ys wr ∧ Below w.heap.size w wr) (fun i _ => m - (intOf i).toNat)
  case atStart => exact ⟨0, [], Nat.zero_le _, rfl, by simp, h0, HB.out⟩
  case round =>
    obtain ⟨k, ys, hk, rfl, hys, hJs, hnx⟩ := hrel
    have hyl : ys.length = k := by have := congrArg List.length hys; rw [List.length_map, List.length_map, List.length_take] at this; have := HM.out; omega
    have HJ := Lib.hid hJs
    have HX := Lib.hid hnx
    have HYS := Lib.hid (And.intro hys hyl)
    by_cases hlt : k < m
    · obtain ⟨x, hx⟩ : ∃ x, out[k]? = some x := ⟨_, List.getElem?_eq_getElem (by rw [← HM.out]; exact hlt)⟩
      have hxm := List.mem_of_getElem? hx
      obtain ⟨hk32, hbx, hblk⟩ := HT.out.vals x hxm
      obtain ⟨g0, cp, cur, hv0, hbg, hg0, hs0, hx0, _⟩ := HT.out.row.open (fun y hy => (HT.out.vals y hy).1) (by have := HM.out; omega)
      injection hv0 with hv1 _ hv3
      subst hv1
      have hgl : g0 < w.heap.size := row_lt hg0
      have hrw : wr.heap[g0]? = some (.cells cur 159 (0, 0)) := (hnx.block g0 hgl).trans hg0
      have hbw : Bytes wr x.vv x.val := hbx.keep (Ch.of_below hnx) (fun q hq hw => by have := (hblk q hq).2.1; omega)
      have hsz := Pr.size hk32
      have hm33 : k * 33 + 33 ≤ cur.size := by have := Nat.mul_le_mul_right 33 (show k + 1 ≤ out.length by have := HM.out; omega); omega
      have hxc := hx0 k x hx
      obtain ⟨C, hC⟩ : ∃ C, C = x.cells := ⟨_, rfl⟩
      have hCs : C.size = 33 := by rw [hC]; exact hsz
      have hC1 : ∀ u ∈ C.toList, u.oneCell' = true := by rw [hC]; exact Pr.one (w := w) ⟨hk32, hbx, fun _ q hq => (hblk q hq).2.1⟩
      have hCk : C.extract 0 (0 + 32) = brow x.key := by rw [hC]; exact Pr.at_key hk32
      have hCv : C[32]? = some x.vv := by rw [hC]; exact Pr.at_val hk32
      rw [← hC] at hxc
      obtain ⟨KX, hKX⟩ : ∃ K, K = brow x.key := ⟨_, rfl⟩
      rw [← hKX] at hCk
      obtain ⟨p, hp⟩ : ∃ p, p = wr.heap.size := ⟨_, rfl⟩
      obtain ⟨wp, hwp⟩ : ∃ wp, wp = (wr.alloc (.cells Z 159)).setRow p C := ⟨_, rfl⟩
      have rp : wp.heap[p]? = some (.cells C 159 (0, 0)) := by rw [hwp, hp]; exact row_setRow_same (heap_alloc_new _ _) _
      have ap : Adds wr wp := by rw [hwp]; exact ((Ch.refl _ _).alloc _).setRow (.inr (by omega)) _
      obtain ⟨xo, xc, hxv, _⟩ := hbw.form
      obtain ⟨v', w8, hrun, hown8, a8⟩ := run_append_copy' (P := Tryz.prog) wp.drew 32 32 5 rfl i8 Tryz.underlying32 HI.out.1 HI.out.2.1 HI.out.2.2.1 HI.out.2.2.2 x.vv x.val (hbw.keep ap.drew (fun _ _ h => h)) (by have := HV.out x hxm; omega)
      have r8 := a8.row (row_drew rp) id
      have a18 : Adds wr w8 := ap.drew.trans a8 (fun _ h => h.elim)
      have hwr := HX.out.size
      have hJ8 := HJA.out ys wr w8 none HJ.out a18.grownBy (fun r e => by cases e)
      have hY8 : Yv w.heap.size out ys ⟨x.key, v', x.val⟩ w8 := ⟨x, by rw [HYS.out.2]; exact hx, rfl, hk32, HV.out x hxm, hown8.base (fun q hq => by have h1 := (hown8.lt q hq).1; have h2 := ap.size; simp at h1; omega)⟩
      obtain ⟨fn, tmps, assign, body, hy, hR⟩ := HY.out ys ⟨x.key, v', x.val⟩ w8 hJ8 hY8 (by rw [HYS.out.2, ← HM.out]; exact hlt)
      dsimp only at hy
      rw [← hKX] at hy
      have hR2 := hR.mono (R' := fun e W' => ∃ bb : Bool, e = .returned (.bool bb) ∧ (if bb = true then J (ys ++ [Pr.mk x.key v' x.val]) W' ∧ Below w.heap.size w8 W' else Jx (ys ++ [Pr.mk x.key v' x.val]) W')) (fun e W' h => by
        rcases h with ⟨rfl, p, q⟩ | ⟨rfl, p⟩
        · exact ⟨true, rfl, by rw [if_pos rfl]; exact ⟨p, q⟩⟩
        · exact ⟨false, rfl, by rw [if_neg (by decide)]; exact p⟩)
      have eK : ∀ w0 : World, w0.heap[p]? = some (.cells C 159 (0, 0)) → (loadVar 31 ⟨p, 0, none⟩).run Tryz.prog w0 = .ok (.agg KX) w0 := fun w0 h => by
        have := run_load_part (P := Tryz.prog) w0 h Tryz.underlying31 rfl sizeP (off := 0) (by rw [hCs]; omega)
        rw [this, hCk]
      have e1 := eK wp.drew (row_drew rp)
      have e8 := eK w8 r8
      have c32 := row_cell (row_drew rp) hCv
      have c832 := row_cell r8 hCv
      have HW := Lib.hid (And.intro hwp hp)
      have HC := Lib.hid (And.intro hCs (And.intro hC1 hxc))
      have HR2 := Lib.hid hR2
      have HRW := Lib.hid (And.intro hrw hm33)
      have HYY := Lib.hid hy
      have HEND := Lib.hid (show (ys ++ [Pr.mk x.key v' x.val]).map Pr.ent = (out.take (k + 1)).map Pr.ent by rw [List.map_append, HYS.out.1, take_step' hx, List.map_append]; rfl)
      have HB8 := Lib.hid (show Below w.heap.size w w8 from HX.out.trans (a18.below HX.out.size (fun _ h => h.elim)))
      rw [hxv] at hrun c32 c832
      have hkm : (k : Int) < (m : Int) := by omega
      clear hx hxm hk32 hbx hblk hbg hg0 hs0 hx0 hgl hrw hbw hsz hm33 hxc hC hCs hC1 hCk hCv hKX hwp rp ap hown8 a8 r8 a18 hwr hJ8 hY8 hR hR2 eK hys hyl hJs hnx hxv hp hv3
      gi_wp2_with (first
        | fail
        | ((with_reducible show wpListIn _ _ _ _ _ (⟨_, .load 159 _, _, _, _, _⟩ :: _) _ _); refine wpListIn_load_part rfl 159 _ rfl g0 (k * 33) rfl HRW.out.1 Tryz.underlying159 rfl sizePr HRW.out.2 C HC.out.2.2 ?_)
        | ((with_reducible show wpListIn _ _ _ _ _ (⟨_, .alloc 159, _, _, _, _⟩ :: _) _ _); refine wpListIn_alloc_is rfl 159 rfl (.agg Z) HZ.out.1 ?_; dsimp only [Value.cells]; try simp only [World.size_alloc])
        | ((with_reducible show wpListIn _ _ _ _ _ (⟨_, .store 159 _ _, _, _, _, _⟩ :: _) _ _); refine wpListIn_store_part rfl 159 _ _ rfl wr.heap.size 0 C rfl rfl (heap_alloc_new _ _) (by rw [sizePr, HC.out.1]) (by rw [HC.out.1, HZ.out.2]; omega) HC.out.2.1 C (by rw [splice_all _ _ (by rw [Array.length_toList, Array.length_toList, HC.out.1, HZ.out.2])]) ?_))
      rw [← HW.out.2]
      rw [← HW.out.1]
      refine wpIn_region_any (by kernel_rfl) ?_
      change wpAnyIn _ _ _ _ _ _ _ _ _ (World.drew _)
      refine wpAnyIn_take (i := 0) (v := .func (.yield l) #[] #[]) rfl rfl (by kernel_rfl) (by kernel_rfl) (by kernel_rfl) (fun _ _ _ h => h) ⟨Or.inl ⟨by rfl, fun w0 => by go_simp; try rfl⟩, fun _ => rfl⟩ ?_
      refine wpAnyIn_take (i := 1) (v := .pointer (some ⟨p, 0, none⟩)) rfl rfl (by kernel_rfl) (by kernel_rfl) (by kernel_rfl) (fun _ _ _ h => h) ⟨Or.inl ⟨by rfl, fun w0 => by go_simp; try rfl⟩, fun _ => rfl⟩ ?_
      refine wpAnyIn_take (i := 3) (v := .pointer (some ⟨p, 32, none⟩)) rfl rfl (by kernel_rfl) (by kernel_rfl) (by kernel_rfl) (fun _ _ _ h => h) ⟨Or.inl ⟨by rfl, fun w0 => by go_simp; try rfl⟩, fun _ => rfl⟩ ?_
      have sl : (loadVar 32 ⟨p, 32, none⟩).run Tryz.prog wp.drew = .ok (.slice xo x.val.length xc) wp.drew := by go_simp; try rfl
      refine wpAnyIn_ready (rs := [2, 4]) (by kernel_rfl) (by simp) (AllReadyIn.cons rfl (fun K2 hK2 => ?_) (AllReadyIn.cons rfl (fun K4 hK4 => ?_) AllReadyIn.nil))
      · refine stepIn_run rfl (fun f hf => trivial) rfl (exec_load rfl rfl e1) (hK2 _ _ ?_)
        refine wpAnyIn_ready (rs := [4]) (by kernel_rfl) (by simp) (AllReadyIn.cons rfl (fun K4 hK4 => ?_) AllReadyIn.nil)
        refine stepIn_run rfl (fun f hf => trivial) rfl (exec_load rfl rfl sl) (hK4 _ _ ?_)
        refine wpAnyIn_ready (rs := [5]) (by kernel_rfl) (by simp) (AllReadyIn.cons rfl (fun K5 hK5 => ?_) AllReadyIn.nil)
        refine stepIn_run rfl (fun f hf => trivial) rfl (exec_append rfl hrun) (hK5 _ _ ?_)
        refine wpAnyIn_ready (rs := [6]) (by kernel_rfl) (by simp) (AllReadyIn.cons rfl (fun K6 hK6 => ?_) AllReadyIn.nil); simp only [Act.put]; go_simp; refine HR2.out.mono ?_; rintro e W3 ⟨bb, rfl, hbb⟩; refine hK6 _ _ ?_; refine wpAnyIn_take (i := 7) (v := .bool (!bb)) rfl rfl (by kernel_rfl) (by kernel_rfl) (by kernel_rfl) (fun _ _ _ h => h) ⟨Or.inl ⟨by rfl, fun w0 => by go_simp; try rfl⟩, fun _ => rfl⟩ ?_; refine wpAnyIn_done (by kernel_rfl) ?_ _; simp only [Act.put]; clear hK6; cases bb with | true => (rw [if_pos rfl] at hbb; obtain ⟨hJ3, hK3⟩ := hbb; have H3 := Lib.hid (And.intro hJ3 hK3); clear hJ3 hK3; gi_wp2; go_roundw; (case rel => exact ⟨k + 1, ys ++ [Pr.mk x.key v' x.val], by omega, by simp, HEND.out, H3.out.1, HB8.out.trans H3.out.2⟩); (case measure => (simp [intOf]; omega))) | false => (rw [if_neg (by decide)] at hbb; have H3 := Lib.hid hbb; clear hbb; gi_wp2; refine bodyPost_ret (results_none rfl _ _ _) rfl ?_; exact ⟨⟨_, rfl⟩, .inr ⟨_, by rw [HEND.out]; exact (List.take_prefix _ _).map _, H3.out⟩⟩)
      · refine stepIn_run rfl (fun f hf => trivial) rfl (exec_load rfl rfl sl) (hK4 _ _ ?_)
        refine wpAnyIn_ready (rs := [2, 5]) (by kernel_rfl) (by simp) (AllReadyIn.cons rfl (fun K2 hK2 => ?_) (AllReadyIn.cons rfl (fun K5 hK5 => ?_) AllReadyIn.nil))
        · refine stepIn_run rfl (fun f hf => trivial) rfl (exec_load rfl rfl e1) (hK2 _ _ ?_)
          refine wpAnyIn_ready (rs := [5]) (by kernel_rfl) (by simp) (AllReadyIn.cons rfl (fun K5 hK5 => ?_) AllReadyIn.nil)
          refine stepIn_run rfl (fun f hf => trivial) rfl (exec_append rfl hrun) (hK5 _ _ ?_)
          refine wpAnyIn_ready (rs := [6]) (by kernel_rfl) (by simp) (AllReadyIn.cons rfl (fun K6 hK6 => ?_) AllReadyIn.nil); simp only [Act.put]; go_simp; refine HR2.out.mono ?_; rintro e W3 ⟨bb, rfl, hbb⟩; refine hK6 _ _ ?_; refine wpAnyIn_take (i := 7) (v := .bool (!bb)) rfl rfl (by kernel_rfl) (by kernel_rfl) (by kernel_rfl) (fun _ _ _ h => h) ⟨Or.inl ⟨by rfl, fun w0 => by go_simp; try rfl⟩, fun _ => rfl⟩ ?_; refine wpAnyIn_done (by kernel_rfl) ?_ _; simp only [Act.put]; clear hK6; cases bb with | true => (rw [if_pos rfl] at hbb; obtain ⟨hJ3, hK3⟩ := hbb; have H3 := Lib.hid (And.intro hJ3 hK3); clear hJ3 hK3; gi_wp2; go_roundw; (case rel => exact ⟨k + 1, ys ++ [Pr.mk x.key v' x.val], by omega, by simp, HEND.out, H3.out.1, HB8.out.trans H3.out.2⟩); (case measure => (simp [intOf]; omega))) | false => (rw [if_neg (by decide)] at hbb; have H3 := Lib.hid hbb; clear hbb; gi_wp2; refine bodyPost_ret (results_none rfl _ _ _) rfl ?_; exact ⟨⟨_, rfl⟩, .inr ⟨_, by rw [HEND.out]; exact (List.take_prefix _ _).map _, H3.out⟩⟩)
        · refine stepIn_run rfl (fun f hf => trivial) rfl (exec_append rfl hrun) (hK5 _ _ ?_)
          refine wpAnyIn_ready (rs := [2]) (by kernel_rfl) (by simp) (AllReadyIn.cons rfl (fun K2 hK2 => ?_) AllReadyIn.nil)
          refine stepIn_run rfl (fun f hf => trivial) rfl (exec_load rfl rfl e8) (hK2 _ _ ?_)
          refine wpAnyIn_ready (rs := [6]) (by kernel_rfl) (by simp) (AllReadyIn.cons rfl (fun K6 hK6 => ?_) AllReadyIn.nil); simp only [Act.put]; go_simp; refine HR2.out.mono ?_; rintro e W3 ⟨bb, rfl, hbb⟩; refine hK6 _ _ ?_; refine wpAnyIn_take (i := 7) (v := .bool (!bb)) rfl rfl (by kernel_rfl) (by kernel_rfl) (by kernel_rfl) (fun _ _ _ h => h) ⟨Or.inl ⟨by rfl, fun w0 => by go_simp; try rfl⟩, fun _ => rfl⟩ ?_; refine wpAnyIn_done (by kernel_rfl) ?_ _; simp only [Act.put]; clear hK6; cases bb with | true => (rw [if_pos rfl] at hbb; obtain ⟨hJ3, hK3⟩ := hbb; have H3 := Lib.hid (And.intro hJ3 hK3); clear hJ3 hK3; gi_wp2; go_roundw; (case rel => exact ⟨k + 1, ys ++ [Pr.mk x.key v' x.val], by omega, by simp, HEND.out, H3.out.1, HB8.out.trans H3.out.2⟩); (case measure => (simp [intOf]; omega))) | false => (rw [if_neg (by decide)] at hbb; have H3 := Lib.hid hbb; clear hbb; gi_wp2; refine bodyPost_ret (results_none rfl _ _ _) rfl ?_; exact ⟨⟨_, rfl⟩, .inr ⟨_, by rw [HEND.out]; exact (List.take_prefix _ _).map _, H3.out⟩⟩)
    · obtain rfl : k = m := by omega
      gi_wp2
      go_end0
      exact ⟨⟨_, rfl⟩, .inl ⟨ys, by rw [HYS.out.1, List.take_of_length_le (by have := HM.out; omega)], HJ.out⟩⟩
end Go.Proofs.YtmeglndnkdgkoaaGreat.Store

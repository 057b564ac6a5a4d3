/- Layer 9's statements: the entries that writes lead to; a number counted round. -/
import Derived.Test.YtpeebeebakjpdaaRows9
import Derived.Test.YtpeebeebakjpdaaPlanK
import Derived.Deep.LoopGhost
namespace Go.Proofs.Ytpeebeebakjpdaa.Law9
open Go Go.RowKit Go.Proofs.Ytpeebeebakjpdaa Go.Proofs.Ytpeebeebakjpdaa.ShaW Go.Proofs.Ytpeebeebakjpdaa.Path Go.Proofs.Ytpeebeebakjpdaa.Store
set_option maxHeartbeats 3200000
set_option linter.unusedVariables false

/-- Pick. -/
def pick (x : Int) (n : Nat) : Int := if Int.tmod x n < 0 then Int.tmod x n + n else Int.tmod x n
theorem pick_in (x : Int) {n : Nat} (hn : 0 < n) : 0 ≤ pick x n ∧ pick x n < n := by
  have h1 := Int.lt_tmod_of_pos x (show (0 : Int) < n by omega)
  have h2 := Int.tmod_lt_of_pos x (show (0 : Int) < n by omega)
  unfold pick
  split <;> omega
theorem Pick_ok (x : Int) (hx : (Lit.int .i64 x).wf = true) (n : Nat) (hn : 0 < n) (hn2 : n ≤ 1000000) (w : World) : Calls Try.prog 13 #[.int .i64 x, .int .i64 n] w fun e w' => e = .returned (.int .i64 (pick x n)) ∧ w = w' := by
  have h1 := Int.lt_tmod_of_pos x (show (0 : Int) < n by omega)
  have h2 := Int.tmod_lt_of_pos x (show (0 : Int) < n by omega)
  have hw0 : IntKind.i64.wrap (Int.tmod x n) = Int.tmod x n := IntWalk.i64_in _ (by omega)
  have hw : IntKind.i64.wrap (Int.tmod x n + n) = Int.tmod x n + n := IntWalk.i64_in _ (by omega)
  have hz : ((n : Int) == 0) = false := by simpa using (show ¬ (n : Int) = 0 by omega)
  unfold pick
  obtain ⟨m, hm⟩ : ∃ m, m = Int.tmod x n := ⟨_, rfl⟩
  by_cases h0 : Int.tmod x n < 0
  · rw [if_pos h0]
    go_enter Try.func13, Try.ntmps13
    go_wp2
    go_ret
    exact ⟨rfl, rfl⟩
  · rw [if_neg h0]
    have hx0 : decide (Int.tmod x n < 0) = false := decide_eq_false h0
    go_enter Try.func13, Try.ntmps13
    go_wp2
    go_ret
    exact ⟨rfl, rfl⟩
/-- What has been found of a key among the first j. -/
def AtOk (out : List Pr) (key : List UInt8) (j : Nat) (x : Int) : Prop := (x = -1 ∧ ∀ i q, i < j → out[i]? = some q → q.key ≠ key) ∨ ∃ (i : Nat) (q : Pr), i < j ∧ x = (i : Int) ∧ out[i]? = some q ∧ q.key = key
theorem pair_parts {cur : Array Value} {o : Nat} {x : Pr} (hk : x.key.length = 32) (h : cur.extract o (o + 33) = x.cells) : cur.extract o (o + 32) = brow x.key ∧ cur[o + 32]? = some x.vv := by
  have hs := Pr.size hk
  have h' : cur.extract o (o + x.cells.size) = x.cells := by rw [hs]; exact h
  exact ⟨extract_part h' (by rw [hs]; omega) (Pr.at_key hk), extract_get h' (Pr.at_val hk)⟩
theorem sizePr : (Try.prog.info? 32).map (·.size) = some 33 := by kernel_rfl
theorem pair_info : ∃ i z, Try.prog.info? 32 = some i ∧ i.zero = some z ∧ i.size = 33 ∧ i.bytes = 56 ∧ z.cells.size = 33 := by
  obtain ⟨i, h1, h2, h3, h4⟩ := info_parts (P := Try.prog) (e := 32) (z := .agg (List.replicate 32 (Value.int .u8 0) ++ [Value.slice none 0 0]).toArray) (size := 33) (bytes := 56) (by kernel_rfl)
  exact ⟨i, _, h1, h2, h3, h4, rfl⟩
theorem AtOk.step {out : List Pr} {key : List UInt8} {j : Nat} {y : Int} {q : Pr} (h : AtOk out key j y) (hq : out[j]? = some q) : AtOk out key (j + 1) (if q.key = key then (j : Int) else y) := by
  by_cases e : q.key = key
  · rw [if_pos e]
    exact .inr ⟨j, q, Nat.lt_succ_self _, rfl, hq, e⟩
  · rw [if_neg e]
    rcases h with ⟨h1, h2⟩ | ⟨i, q', h1, h2, h3, h4⟩
    · refine .inl ⟨h1, fun i q' hi hq' => ?_⟩
      by_cases e2 : i = j
      · subst e2
        rw [hq] at hq'
        cases hq'
        exact e
      · exact h2 i q' (by omega) hq'
    · exact .inr ⟨i, q', by omega, h2, h3, h4⟩
set_option maxRecDepth 100000 in
theorem pairs_ok {w : World} {ao : Option Addr} {l : List Pr} (cap : Nat) (h : PairsAt w ao l) (hlen : l.length ≤ 16) :
    Calls Try.prog 12 #[.slice ao l.length cap] w fun e w' => ∃ v out, e = .returned v ∧ Pairs l out ∧ RowP w' w.heap.size v out ∧ Adds w w' := by
  have HL := Lib.hid h
  obtain ⟨len, hle⟩ : ∃ len, len = l.length := ⟨_, rfl⟩
  rw [← hle] at hlen ⊢
  have HLE := Lib.hid hle
  clear h hle
  go_enter Try.func12, Try.ntmps12
  go_wp2_with fail
  go_loopg [3, 4, 5, 6] len (fun g s3 s4 s5 s6 wr => ∃ (k : Nat) (out : List Pr), s4 = .int .i64 k ∧ k + g = len ∧ Pairs (l.take k) out ∧ RowP wr w.heap.size s3 out ∧ Adds w wr)
  case atStart => exact ⟨0, [], rfl, by omega, by rw [List.take_zero]; exact .nil, RowP.nil _ _, Ch.refl _ _⟩
  case round =>
    obtain ⟨k, out, rfl, hk, hpr, hrow, hA⟩ := hrel
    obtain ⟨oo, oc, rfl⟩ := hrow.form
    have HR := Lib.hid (And.intro hpr (And.intro hrow hA))
    have HKG := Lib.hid hk
    by_cases hkl : k = len
    · have hx1 : decide ((k : Int) < (len : Int)) = false := decide_eq_false (by omega)
      have hx1' : decide (k < len) = false := decide_eq_false (by omega)
      clear hk hpr hrow hA
      go_wp2
      go_ret
      have hpr := HR.out.1
      rw [List.take_of_length_le (by have := HLE.out; omega)] at hpr
      exact ⟨_, out, rfl, hpr, HR.out.2.1, HR.out.2.2⟩
    · have hx1 : decide ((k : Int) < (len : Int)) = true := decide_eq_true (by omega)
      have hx1' : decide (k < len) = true := decide_eq_true (by omega)
      have hkl' : k < l.length := by have := HLE.out; omega
      have hklen : (k : Int) < (len : Int) := by omega
      have hklen' : k < len := by omega
      obtain ⟨x, hx⟩ : ∃ x, l[k]? = some x := ⟨_, List.getElem?_eq_getElem hkl'⟩
      obtain ⟨g0, off, rfl, hp⟩ := HL.out.2 k x hx
      have hg := HL.out.1 x (List.mem_of_getElem? hx)
      have hlo : out.length ≤ 16 := by have := hpr.len; rw [List.length_take] at this; omega
      have hko : KeyOk out := fun y hy => (HL.out.1 y (List.mem_of_mem_take (hpr.mem y hy))).key
      have HKO := Lib.hid hko
      have hsz := Pr.size hg.key
      obtain ⟨cur, ty, fr, c1, c2, c3⟩ := hp
      rw [hsz] at c2 c3
      obtain ⟨ck, cv⟩ := pair_parts hg.key c3
      have HC := Lib.hid (And.intro c1 (And.intro c2 (And.intro c3 (And.intro ck cv))))
      have HG := Lib.hid hg
      have HX := Lib.hid hx
      clear hk hpr hrow hA hg hko hsz c1 c2 c3 ck cv hx hkl
      go_wp2_with fail
      go_loopg [5, 6] out.length (fun g s5 s6 wx => ∃ (j : Nat) (y : Int), s6 = .int .i64 j ∧ s5 = .int .i64 y ∧ j + g = out.length ∧ AtOk out x.key j y ∧ Adds wr wx)
      case atStart => exact ⟨0, -1, rfl, rfl, by omega, .inl ⟨rfl, fun i q hi => absurd hi (Nat.not_lt_zero _)⟩, Ch.refl _ _⟩
      case round =>
        obtain ⟨j, y, rfl, rfl, hj, hat, hA⟩ := hrel
        have HA := Lib.hid (And.intro hat hA)
        have HJ := Lib.hid hj
        by_cases hjl : j = out.length
        · have hx2 : decide ((j : Int) < (out.length : Int)) = false := decide_eq_false (by omega)
          have hx2' : decide (j < out.length) = false := decide_eq_false (by omega)
          obtain ⟨C, hC⟩ : ∃ C, C = x.cells := ⟨_, rfl⟩
          have hCs : C.size = 33 := by rw [hC]; exact Pr.size HG.out.key
          have hC1 : ∀ v ∈ C.toList, v.oneCell' = true := by rw [hC]; exact Pr.one HG.out
          have c3 := HC.out.2.2.1
          rw [← hC] at c3
          have hargs := (HR.out.2.2.trans hA (fun _ h => h.elim)).row HC.out.1 id
          have HCC := Lib.hid (And.intro hCs (And.intro hC1 (And.intro c3 (And.intro hargs hC))))
          have htk : l.take (k + 1) = l.take k ++ [x] := by rw [List.take_add_one, HX.out]; rfl
          have HTK := Lib.hid htk
          clear hC hCs hC1 c3 hargs htk
          rcases hat with ⟨rfl, hno⟩ | ⟨i, q, hi, rfl, hq, hqk⟩
          · have HNO := Lib.hid hno
            obtain ⟨i0, z0, p1, p2, p3, p4, p5⟩ := pair_info
            have HI := Lib.hid (And.intro p1 (And.intro p2 (And.intro p3 (And.intro p4 p5))))
            clear hno hA hj p1 p2 p3 p4 p5
            subst hjl
            go_wp2_with (first
              | fail
              | ((with_reducible show wpList _ _ _ (⟨_, .load 32 _, _, _, _, _⟩ :: _) _ _); refine wpList_load_part rfl 32 _ rfl g0 (off + k * 33) rfl HCC.out.2.2.2.1 Try.underlying32 rfl sizePr (by have := HC.out.2.1; omega) C HCC.out.2.2.1 ?_)
              | ((with_reducible show wpList _ _ _ (⟨_, .buildSlice 22 _ _, _, _, _, _⟩ :: _) _ _); refine wpList_buildSlice_one rfl 22 _ rfl 32 i0 z0 (.agg C) rfl Try.underlying22 HI.out.1 HI.out.2.1 (by rw [HI.out.2.2.1]; decide) (by rw [HI.out.2.2.1]; decide) (by rw [HI.out.2.2.1]; exact HCC.out.1) ?_)
              | (at_builtin; refine wpList_append_mine rfl _ _ 22 rfl 32 i0 z0 33 56 Try.underlying22 HI.out.1 HI.out.2.1 HI.out.2.2.1 HI.out.2.2.2.1 HI.out.2.2.2.2 (by decide) (.slice oo out.length oc) out.length (flatP out) rfl (((HR.out.2.1.adds HA.out.2).alloc _).base (fun _ _ => Nat.zero_le _)) ⟨wr.heap.size, 0, none⟩ 1 1 C.toList rfl (by rw [Array.length_toList, HCC.out.1]) (row_news (heap_alloc_new wr (.cells C 32))) HCC.out.2.1 (by unfold maxLen; omega) (by omega) ?_; intro v' w4 own' grow' loc'))
            obtain ⟨o4, c4, hv4⟩ := owns_form own'
            subst hv4
            have hA4 : Adds w w4 := ((HR.out.2.2.trans HA.out.2 (fun _ h => h.elim)).alloc _).grown grow' (fun k hk => .inr (HR.out.2.1.lt k hk).1)
            have hrow4 : RowP w4 w.heap.size (.slice o4 (out.length + 1) c4) (out ++ [x]) := by
              have hb : ∀ k, (Value.slice o4 (out.length + 1) c4).ownBlock = some k → w.heap.size ≤ k := fun k hk => by
                rcases loc' with e | e
                · rw [e] at hk
                  exact (HR.out.2.1.lt k hk).1
                · have h1 := e k hk
                  have h2 := HR.out.2.2.size
                  have h3 := HA.out.2.size
                  simp at h1
                  omega
              have hfl : flatP (out ++ [x]) = flatP out ++ C.toList := by rw [HCC.out.2.2.2.2, flatP_append]; simp [flatP]
              unfold RowP
              rw [hfl, List.length_append, List.length_singleton]
              exact own'.base hb
            have hpr4 : Pairs (l.take (k + 1)) (out ++ [x]) := by
              rw [HTK.out]
              exact .new HR.out.1 (fun q hq => by
                obtain ⟨i, hi, rfl⟩ := List.getElem_of_mem hq
                exact HNO.out i _ hi (List.getElem?_eq_getElem hi))
            have H4 := Lib.hid (And.intro hpr4 (And.intro hrow4 hA4))
            clear own' grow' loc' hA4 hrow4 hpr4
            go_wp2_with fail
            go_roundg (len - (k + 1))
            case measure => have := HKG.out; omega
            case rel => exact ⟨k + 1, out ++ [x], by simp, by omega, H4.out.1, H4.out.2.1, H4.out.2.2⟩
          · have hil : i < out.length := by omega
            obtain ⟨go, co, curo, hv, hbo, hgo, hso, hxo, hset⟩ := (HR.out.2.1.adds hA).open HKO.out (by omega)
            injection hv with hv1 hv2 hv3
            subst hv1
            subst hv3
            have hset := hset i x hil HG.out.key
            rw [← HCC.out.2.2.2.2] at hset
            have hgw : w.heap.size ≤ go := hbo
            have hm : i * 33 + 33 ≤ out.length * 33 := by have := Nat.mul_le_mul_right 33 (show i + 1 ≤ out.length by omega); omega
            have hili : (i : Int) < (out.length : Int) := by omega
            have hpr4 : Pairs (l.take (k + 1)) (out.set i x) := by
              rw [HTK.out]
              exact .old HR.out.1 hq hqk
            have hA4 : Adds w (wr.setRow go (splice curo.toList (i * 33) C.toList).toArray) := (HR.out.2.2.trans hA (fun _ h => h.elim)).setRow (.inr hgw) _
            have HO := Lib.hid (And.intro hgo (And.intro (show i * 33 + 33 ≤ curo.size by omega) (And.intro hset (And.intro hpr4 hA4))))
            have hi0 : decide ((i : Int) < 0) = false := decide_eq_false (by omega)
            have hjl2 := hjl
            clear hgo hset hbo hso hxo hgw hm hpr4 hA4 hq hqk hA hj hjl hi
            subst hjl2
            go_wp2_with (first
              | fail
              | ((with_reducible show wpList _ _ _ (⟨_, .load 32 _, _, _, _, _⟩ :: _) _ _); refine wpList_load_part rfl 32 _ rfl g0 (off + k * 33) rfl HCC.out.2.2.2.1 Try.underlying32 rfl sizePr (by have := HC.out.2.1; omega) C HCC.out.2.2.1 ?_)
              | ((with_reducible show wpList _ _ _ (⟨_, .store 32 _ _, _, _, _, _⟩ :: _) _ _); go_must (refine wpList_store_part rfl 32 _ _ rfl go (i * 33) C rfl rfl HO.out.1 (by rw [sizePr, HCC.out.1]) (by rw [HCC.out.1]; exact HO.out.2.1) HCC.out.2.1 _ rfl ?_)))
            go_roundg (len - (k + 1))
            case measure => have := HKG.out; omega
            case rel => exact ⟨k + 1, out.set i x, by simp, by omega, HO.out.2.2.2.1, HO.out.2.2.1, HO.out.2.2.2.2⟩
        · have hx2 : decide ((j : Int) < (out.length : Int)) = true := decide_eq_true (by omega)
          have hx2' : decide (j < out.length) = true := decide_eq_true (by omega)
          have hjl' : j < out.length := by omega
          have hjli : (j : Int) < (out.length : Int) := by omega
          obtain ⟨q, hq⟩ : ∃ q, out[j]? = some q := ⟨_, List.getElem?_eq_getElem hjl'⟩
          obtain ⟨go, co, curo, hv, hbo, hgo, hso, hxo, _⟩ := (HR.out.2.1.adds hA).open HKO.out (by omega)
          injection hv with hv1 hv2 hv3
          subst hv1
          subst hv3
          have hqk := HKO.out q (List.mem_of_getElem? hq)
          obtain ⟨qk, _⟩ := pair_parts hqk (hxo j q hq)
          have hm : j * 33 + 33 ≤ out.length * 33 := by have := Nat.mul_le_mul_right 33 (show j + 1 ≤ out.length by omega); omega
          have hargs := (HR.out.2.2.trans hA (fun _ h => h.elim)).row HC.out.1 id
          have heq := eql_keys 29 Try.underlying29 q.key x.key hqk HG.out.key
          obtain ⟨KQ, hKQ⟩ : ∃ K, K = brow q.key := ⟨_, rfl⟩
          obtain ⟨KX, hKX⟩ : ∃ K, K = brow x.key := ⟨_, rfl⟩
          have ckx := HC.out.2.2.2.1
          rw [← hKX] at heq ckx
          rw [← hKQ] at heq qk
          have HO := Lib.hid (And.intro hgo (And.intro hargs (And.intro qk (And.intro ckx (show j * 33 + 32 ≤ curo.size by omega)))))
          have HEQ := Lib.hid heq
          have HQ := Lib.hid hq
          have ho16 : out.length ≤ 16 := hlo
          clear hat hA hj hjl hgo hargs qk ckx heq hq hqk hKQ hKX hxo hso hbo hm
          go_wp2
          refine wp_region_plan (fun w0 => w0.heap[go]? = some (.cells curo 32 (0, 0)) ∧ w0.heap[g0]? = some (.cells cur ty fr)) 11 [(0, false), (1, false), (2, false), (3, false), (4, false), (5, false), (6, false), (7, false), (8, false), (9, false), (10, false)] (by kernel_rfl) (by kernel_rfl) ?_ ?_
          · exact ⟨row_drew HO.out.1, row_drew HO.out.2.1⟩
          iterate 4
            refine plan_look rfl rfl (fun w0 hS => (by clear hS; go_simp; try rfl)) ?_
            simp only [Act.put, List.setIfInBounds_toArray, List.set_cons_succ, List.set_cons_zero]
          refine plan_load_part (cur := curo) (t := 32) (fr := (0, 0)) rfl rfl 29 _ rfl go (j * 33) 32 (by simp [go_sem]) (fun w0 hS => hS.1) Try.underlying29 rfl sizeP HO.out.2.2.2.2 KQ HO.out.2.2.1 ?_
          simp only [Act.put, List.setIfInBounds_toArray, List.set_cons_succ, List.set_cons_zero]
          iterate 4
            refine plan_look rfl rfl (fun w0 hS => (by clear hS; go_simp; try rfl)) ?_
            simp only [Act.put, List.setIfInBounds_toArray, List.set_cons_succ, List.set_cons_zero]
          refine plan_load_part (cur := cur) (t := ty) (fr := fr) rfl rfl 29 _ rfl g0 (off + k * 33) 32 rfl (fun w0 hS => hS.2) Try.underlying29 rfl sizeP (by have := HC.out.2.1; omega) KX HO.out.2.2.2.1 ?_
          simp only [Act.put, List.setIfInBounds_toArray, List.set_cons_succ, List.set_cons_zero]
          obtain ⟨eb, heb⟩ : ∃ eb, eb = decide (q.key = x.key) := ⟨_, rfl⟩
          have heq := HEQ.out
          rw [← heb] at heq
          have HEQ2 := Lib.hid heq
          have HEB := Lib.hid heb
          clear heq heb
          refine plan_look (v := .bool eb) rfl rfl (fun w0 hS => (by have hq := HEQ2.out w0; rw [run_eql_struct] at hq; clear hS; go_simp)) ?_
          simp only [Act.put, List.setIfInBounds_toArray, List.set_cons_succ, List.set_cons_zero]
          refine plan_end ?_; simp only [List.drop_succ_cons, List.drop_zero]
          go_wp2
          refine NoPanic.normal ?_
          have hstep := HA.out.1.step HQ.out
          cases eb with
          | true =>
            rw [if_pos (of_decide_eq_true HEB.out.symm)] at hstep
            have HST := Lib.hid hstep
            clear hstep
            go_wp2_with fail
            go_roundg (gk - 1)
            case measure => have := HJ.out; omega
            case rel => exact ⟨j + 1, j, by simp, rfl, by have := HJ.out; omega, HST.out, HA.out.2.drew⟩
          | false =>
            rw [if_neg (of_decide_eq_false HEB.out.symm)] at hstep
            have HST := Lib.hid hstep
            clear hstep
            go_wp2_with fail
            go_roundg (gk - 1)
            case measure => have := HJ.out; omega
            case rel => exact ⟨j + 1, y, by simp, rfl, by have := HJ.out; omega, HST.out, HA.out.2.drew⟩
end Go.Proofs.Ytpeebeebakjpdaa.Law9

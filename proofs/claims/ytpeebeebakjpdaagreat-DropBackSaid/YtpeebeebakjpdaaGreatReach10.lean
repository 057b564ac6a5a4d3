/- Layer 10's statements: how many nodes a root reaches. -/
import Derived.Test.YtpeebeebakjpdaaGreatDropC
import Derived.Test.YtpeebeebakjpdaaGreatPutI
import Derived.Deep.LoopGhost
import Derived.Maps.AppendAt
namespace Go.Proofs.YtpeebeebakjpdaaGreat.Law10
open Go Go.RowKit Go.Proofs.YtpeebeebakjpdaaGreat Go.Proofs.YtpeebeebakjpdaaGreat.ShaW Go.Proofs.YtpeebeebakjpdaaGreat.Path Go.Proofs.YtpeebeebakjpdaaGreat.Store Go.Proofs.YtpeebeebakjpdaaGreat.Law9
set_option maxHeartbeats 3200000
set_option linter.unusedVariables false

def tot (l : List (Int × Tr)) : Nat := (l.map fun p => p.2.nodes).sum
theorem tot_cons (p : Int × Tr) (l : List (Int × Tr)) : tot (p :: l) = p.2.nodes + tot l := rfl
/-- What the next handle is: none, or a node with two parts. -/
theorem rep_step {f : View} (hf : Fit f) {h : Int} {d : Nat} {t : Tr} (hr : Rep f h d t) : (f h = none ∧ t.nodes = 0) ∨ ∃ n a b, f h = some n ∧ (∃ d, Rep f n.left d a) ∧ (∃ d, Rep f n.right d b) ∧ t.nodes = a.nodes + b.nodes + 1 := by
  cases hr with
  | nil => exact .inl ⟨hf.zero, rfl⟩
  | leaf hn hk =>
    obtain ⟨_, ho⟩ := hf.leaf hn (by omega)
    exact .inr ⟨_, .nil, .nil, hn, ⟨0, by rw [ho.left]; exact .nil⟩, ⟨0, by rw [ho.right]; exact .nil⟩, rfl⟩
  | node hn _ _ hl hr => exact .inr ⟨_, _, _, hn, ⟨_, hl⟩, ⟨_, hr⟩, rfl⟩
def Goes (w : World) (σ : SlabSt Nd) (all : Nat) (g : Nat) (v5 v6 : Value) (wr : World) : Prop :=
  ∃ (ps : List (Int × Tr)) (n : Nat), (∀ p ∈ ps, ∃ d, Rep (sk σ) p.1 d p.2) ∧ v5 = .int .i64 (n : Nat) ∧ n + tot ps = all ∧ g = 2 * tot ps + ps.length ∧ 2 * tot ps + ps.length ≤ 2 * all + 1 ∧
    wr.ownsRow w.heap.size 3 1 v6 ps.length (il (ps.map (·.1)).reverse) ∧ Adds w wr
set_option maxRecDepth 100000 in
theorem reached_ok {w : World} {s : Nat} {F : Nat → Prop} {σ : SlabSt Nd} (h : At w s F σ) (G : Store.Good σ) {root : Int} {t : Tr} (hr : Rep (sk σ) root 0 t) (hn : t.nodes ≤ 65536) :
    Calls Tryz.prog 30 #[.pointer (some ⟨s, 0, none⟩), .int .i64 root] w fun e w' => e = .returned (.int .i64 (t.nodes : Nat)) ∧ Adds w w' := by
  obtain ⟨i0, hi, hz0, hz1, hz2⟩ := SlabN.int_info
  obtain ⟨all, hall⟩ : ∃ all, all = t.nodes := ⟨_, rfl⟩
  have HR := Lib.hid (And.intro hr hall)
  have HA := Lib.hid h
  have HG := Lib.hid G
  have HI := Lib.hid (And.intro hi (And.intro hz0 (And.intro hz1 hz2)))
  rw [← hall] at hn ⊢
  clear h G hr hall hi hz0 hz1 hz2
  go_enter Tryz.func30, Tryz.ntmps30
  go_wp2
  go_loopg [5, 6] (2 * all + 1) (fun g s5 s6 wr => Goes w σ all g s5 s6 wr)
  case atStart =>
    refine ⟨[(root, t)], 0, fun p hp => ?_, rfl, ?_, ?_, ?_, ?_, (Ch.refl _ _).alloc _⟩
    · obtain rfl := List.mem_singleton.1 hp
      exact ⟨0, HR.out.1⟩
    · rw [HR.out.2]; simp [tot]
    · rw [HR.out.2]; simp [tot]
    · rw [HR.out.2]; simp [tot]
    · exact (owns_mk' (heap_alloc_new _ _) (by decide) (by decide) rfl rfl).base (fun k hk => by simp [Value.ownBlock] at hk; omega)
  case round =>
    obtain ⟨ps, n, hps, rfl, hall, rfl, hbd, hown, hA⟩ := hrel
    cases ps with
    | nil =>
      obtain ⟨ao, cap, rfl⟩ := owns_form hown
      have hna : n = all := by simpa [tot] using hall
      subst hna
      have HW := Lib.hid hA
      clear hps hall hown hA HR hbd
      simp only [List.length_nil]
      go_wp2
      go_ret
      exact ⟨rfl, HW.out⟩
    | cons p rest =>
      obtain ⟨h', t'⟩ := p
      obtain ⟨g, cap, cur, rfl, hg1, hg2, hg3, hg4, hg5⟩ := owns_block hown (by simp)
      have hcell : wr.cell? ⟨g, rest.length, none⟩ = some (.int .i64 h') := row_cell hg1 (take_get hg5 (by simp [il]))
      have hgw := hown.lt g rfl
      have hown' : wr.ownsRow w.heap.size 3 1 (.slice (some ⟨g, 0, none⟩) rest.length cap) rest.length (il (rest.map (·.1)).reverse) := by
        refine (owns_mk' hg1 (by simp at hg2; omega) hg3 hg4 ?_).base (fun k hk => by simp [Value.ownBlock] at hk; omega)
        have := congrArg (List.take (rest.length * 1)) hg5
        rw [List.take_take, Nat.min_eq_left (by simp)] at this
        rw [this]
        simp [il]
      rw [tot_cons] at hall
      have hbd' : 2 * (t'.nodes + tot rest) + (rest.length + 1) ≤ 2 * all + 1 := hbd
      obtain ⟨d', hd'⟩ := hps (h', t') (List.mem_cons_self ..)
      have hst := rep_step HG.out.fit hd'
      have hrest : ∀ p ∈ rest, ∃ d, Rep (sk σ) p.1 d p.2 := fun p hp => hps p (List.mem_cons_of_mem _ hp)
      have hAr := HA.out.adds hA
      have hhas := Has_ok hAr h'
      have hsid := fun w1 (a : Adds wr w1) => Sides_ok (hAr.adds a) h'
      have hlb : rest.length ≤ 131072 := by omega
      have hlb' : (rest.length : Int) ≤ 131072 := by omega
      have hnb : n ≤ 65536 := by have : n + (t'.nodes + tot rest) = all := hall; omega
      have hnb' : (n : Int) ≤ 65536 := by omega
      have hwk : IntKind.i64.wrap (rest.length : Int) = rest.length := IntWalk.i64_in _ (by omega)
      have hwn : wrap64 ((n : Int) + 1) = ((n + 1 : Nat) : Int) := by unfold wrap64; omega
      have HS := Lib.hid hsid
      have HC := Lib.hid hA
      have HRE := Lib.hid hrest
      have HOW := Lib.hid hown'
      have HB := Lib.hid (And.intro hall (And.intro hbd' hgw))
      clear hps hall hbd hbd' hown hA hd' hrest hAr hsid hg1 hg3 hg4 hg5 hgw hown'
      obtain ⟨m, hm⟩ : ∃ m, m = rest.length := ⟨_, rfl⟩
      simp only [List.length_cons] at hg2 ⊢
      rw [← hm] at hcell hlb hlb' hwk hg2 ⊢
      have HM := Lib.hid hm
      clear hm
      rcases hst with ⟨h1, h2⟩ | ⟨x, a, b, h1, h2, h3, h4⟩
      · have hh : has σ h' = false := has_none (by cases hx : σ.get? h' with | none => rfl | some y => rw [sk_some hx] at h1; cases h1)
        rw [hh] at hhas
        have HH := Lib.hid hhas
        have HN := Lib.hid h2
        clear hhas hh h1 h2
        go_wp2_with fail
        refine HH.out.mono ?_; rintro e w4 ⟨rfl, hc4⟩
        have C4 := Lib.hid (And.intro (HC.out.trans hc4 (fun _ h => h.elim)) (hc4.owns HOW.out (fun _ _ h => h)))
        clear hc4 hcell
        go_wp2_with fail
        go_roundg (2 * tot rest + m)
        case measure => rw [tot_cons, List.length_cons, ← HM.out]; have := HN.out; omega
        case rel =>
          refine ⟨rest, n, HRE.out, rfl, ?_, ?_, ?_, ?_, C4.out.1⟩
          · have h1 : n + (t'.nodes + tot rest) = all := HB.out.1; have h2 : t'.nodes = 0 := HN.out; omega
          · rw [HM.out]
          · have := HB.out.2.1; omega
          · rw [HM.out]; exact C4.out.2
      · obtain ⟨hh, hk⟩ : has σ h' = true ∧ True := ⟨(has_sk h1).1, trivial⟩
        rw [hh] at hhas
        have hl : (nd σ h').left = x.left := nd_left h1
        have hrr : (nd σ h').right = x.right := nd_right h1
        have hs2 := HS.out
        rw [hl, hrr] at hs2
        obtain ⟨nl, hnl⟩ : ∃ nl, nl = x.left := ⟨_, rfl⟩
        obtain ⟨nr, hnr⟩ : ∃ nr, nr = x.right := ⟨_, rfl⟩
        rw [← hnl, ← hnr] at hs2
        rw [← hnl] at h2
        rw [← hnr] at h3
        have HS2 := Lib.hid hs2
        have HH := Lib.hid hhas
        have HN := Lib.hid (And.intro h2 (And.intro h3 h4))
        clear hhas hh hk hl hrr hs2 hnl hnr h1 h2 h3 h4 HS
        go_wp2_with fail
        refine HH.out.mono ?_; rintro e w4 ⟨rfl, hc4⟩
        have C4 := Lib.hid hc4
        clear hc4 hcell
        go_wp2_with fail
        refine (HS2.out _ C4.out).mono ?_; rintro e w5 ⟨rfl, hc5⟩
        have hc := C4.out.trans hc5 (fun _ h => h.elim)
        have C5 := Lib.hid (And.intro (HC.out.trans hc (fun _ h => h.elim)) (hc.owns HOW.out (fun _ _ h => h)))
        have hsz := C5.out.1.size
        have hownm : w5.ownsRow w.heap.size 3 1 (.slice (some ⟨g, 0, none⟩) m cap) m (il (rest.map (·.1)).reverse) := by rw [HM.out]; exact C5.out.2
        have HO := Lib.hid hownm
        have HSZ := Lib.hid hsz
        clear hc5 hc hownm hsz
        go_wp2_with (first
          | (at_builtin; refine wpList_append_own_at _ rfl _ _ 30 rfl w.heap.size 3 i0 (.int .i64 0) 1 8 Tryz.underlying30 HI.out.1 HI.out.2.1 HI.out.2.2.1 HI.out.2.2.2 rfl (by decide) _ _ _ rfl (HO.out.alloc _) ⟨w5.heap.size, 0, none⟩ 2 2 [.int .i64 nl, .int .i64 nr] rfl rfl (row_news (heap_alloc_new w5 (.cells #[.int .i64 nl, .int .i64 nr] 3))) (by simp [Value.oneCell']) (by unfold maxLen; omega) (by omega) (by have := HSZ.out; simp; omega) ?_; intro v' w7 hown7 hgrow hnil hloc))
        have hA7 : Adds w w7 := (C5.out.1.alloc _).grown hgrow (fun k hk => .inr (HO.out.lt k hk).1)
        have H7 := Lib.hid (And.intro hown7 hA7)
        clear hown7 hgrow hnil hloc hA7
        go_roundg (2 * tot ((nr, b) :: (nl, a) :: rest) + (m + 2))
        case measure => simp only [tot_cons]; rw [List.length_cons, ← HM.out]; have := HN.out.2.2; omega
        case rel =>
          refine ⟨(nr, b) :: (nl, a) :: rest, n + 1, fun p hp => ?_, by first | rfl | rw [hwn] | simp, ?_, ?_, ?_, ?_, H7.out.2⟩
          · rcases List.mem_cons.1 hp with rfl | hp
            · exact HN.out.2.1
            · rcases List.mem_cons.1 hp with rfl | hp
              · exact HN.out.1
              · exact HRE.out p hp
          · simp only [tot_cons]; have h1 : n + (t'.nodes + tot rest) = all := HB.out.1; have := HN.out.2.2; omega
          · simp only [List.length_cons]; rw [HM.out]
          · simp only [tot_cons, List.length_cons]; have := HB.out.2.1; have := HN.out.2.2; omega
          · have := H7.out.1
            simp only [List.length_cons, List.map_cons, List.reverse_cons]
            rw [← HM.out]
            simpa [il] using this
end Go.Proofs.YtpeebeebakjpdaaGreat.Law10

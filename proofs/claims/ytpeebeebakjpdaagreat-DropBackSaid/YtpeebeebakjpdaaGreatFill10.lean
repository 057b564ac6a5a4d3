/- Layer 10's statements: a store in which entries were put one behind the other. -/
import Derived.Test.YtpeebeebakjpdaaGreatDropA1
import Derived.Test.YtpeebeebakjpdaaGreatPairs9
namespace Go.Proofs.YtpeebeebakjpdaaGreat.Law10
open Go Go.RowKit Go.Proofs.YtpeebeebakjpdaaGreat Go.Proofs.YtpeebeebakjpdaaGreat.ShaW Go.Proofs.YtpeebeebakjpdaaGreat.Path Go.Proofs.YtpeebeebakjpdaaGreat.Store Go.Proofs.YtpeebeebakjpdaaGreat.Law9
set_option maxHeartbeats 3200000
set_option linter.unusedVariables false

/-- The entries that writes lead to. -/
def entsOf (l : List Pr) : Ents := l.foldl (fun L p => upd L p.key p.val) []
theorem entsOf_next {l : List Pr} {k : Nat} {x : Pr} (hx : l[k]? = some x) : entsOf (l.take (k + 1)) = upd (entsOf (l.take k)) x.key x.val := by
  have htk : l.take (k + 1) = l.take k ++ [x] := by rw [List.take_add_one, hx]; rfl
  unfold entsOf
  rw [htk, List.foldl_append]
  rfl
/-- A store, a root that is all that is held, the entries behind it. -/
structure St10 (w0 w : World) (s : Nat) (σ : SlabSt Nd) (root : Int) (L : Ents) (n : Nat) (k : Nat) : Prop where
  own : Ow w0 w s σ (fun _ => False)
  db : Db σ root L
  room : σ.room = n
  total : Store.total σ ≤ 1000 * k
  live : Store.live σ ≤ 258 * k
  sole : Sole σ root
theorem St10.adds {w0 w w' : World} {s n k : Nat} {σ : SlabSt Nd} {root : Int} {L : Ents} (h : St10 w0 w s σ root L n k) (a : Adds w w') : St10 w0 w' s σ root L n k := ⟨h.own.adds a, h.db, h.room, h.total, h.live, h.sole⟩
set_option maxRecDepth 100000 in
theorem filled_ok {w : World} {ao : Option Addr} {l : List Pr} (cap : Nat) (hl : PairsAt w ao l) (hlen : l.length ≤ 16) (hval : ∀ x ∈ l, x.val.length ≤ 1024) :
    Calls Tryz.prog 21 #[.slice ao l.length cap] w fun e w' => ∃ s σ root, e = .returned (.tuple #[.pointer (some ⟨s, 0, none⟩), .int .i64 root, .bool true]) ∧ St10 w w' s σ root (entsOf l) 10320 l.length := by
  have HL := Lib.hid hl
  have HV := Lib.hid hval
  obtain ⟨len, hle⟩ : ∃ len, len = l.length := ⟨_, rfl⟩
  rw [← hle] at hlen ⊢
  have HLE := Lib.hid hle
  clear hl hval hle
  go_enter Tryz.func21, Tryz.ntmps21
  go_wp2_with fail
  refine (New_own 10320 w (by decide) (by decide)).mono ?_; rintro e w3 ⟨s, rfl, h3⟩
  have hs3 : St10 w w3 s ⟨10320, [], []⟩ 0 [] 10320 0 := ⟨h3.ow.less (fun _ h => h.elim), Db.new 10320 (by decide) (by decide), rfl, Nat.le_refl _, Nat.le_refl _, Sole.new _ _⟩
  have HS3 := Lib.hid hs3
  clear h3 hs3
  go_wp2_with fail
  go_loopg [6, 7, 8] len (fun g s6 s7 s8 wr => ∃ (k : Nat) (root : Int) (σ : SlabSt Nd), s6 = .int .i64 0 ∧ s7 = .int .i64 root ∧ s8 = .int .i64 k ∧ k + g = len ∧ St10 w wr s σ root (entsOf (l.take k)) 10320 k)
  case atStart => exact ⟨0, 0, _, rfl, rfl, rfl, by omega, by rw [List.take_zero]; exact HS3.out⟩
  case round =>
    obtain ⟨k, root, σ, rfl, rfl, rfl, hk, hst⟩ := hrel
    have HS := Lib.hid hst
    have HKG := Lib.hid hk
    clear HS3
    by_cases hkl : k = len
    · have hx1 : decide ((k : Int) < (len : Int)) = false := decide_eq_false (by omega)
      have hx1' : decide (k < len) = false := decide_eq_false (by omega)
      have h9 := HS.out
      rw [List.take_of_length_le (by have := HLE.out; omega), hkl] at h9
      have H9 := Lib.hid h9
      clear hk hst hkl h9
      go_wp2
      go_ret3
      exact ⟨s, σ, root, rfl, H9.out⟩
    · have hx1 : decide ((k : Int) < (len : Int)) = true := decide_eq_true (by omega)
      have hx1' : decide (k < len) = true := decide_eq_true (by omega)
      have hkl' : k < l.length := by have := HLE.out; omega
      have hklen : (k : Int) < (len : Int) := by omega
      have hklen' : k < len := by omega
      obtain ⟨x, hx⟩ : ∃ x, l[k]? = some x := ⟨_, List.getElem?_eq_getElem hkl'⟩
      obtain ⟨g0, off, rfl, hp⟩ := HL.out.2 k x hx
      have hg := HL.out.1 x (List.mem_of_getElem? hx)
      have hsz := Pr.size hg.key
      obtain ⟨cur, ty, fr, c1, c2, c3⟩ := hp
      rw [hsz] at c2 c3
      obtain ⟨ck, cv⟩ := pair_parts hg.key c3
      obtain ⟨K, hK⟩ : ∃ K, K = brow x.key := ⟨_, rfl⟩
      rw [← hK] at ck
      have HC := Lib.hid (And.intro c1 (And.intro c2 (And.intro ck cv)))
      have HX := Lib.hid (And.intro hx (And.intro hg (And.intro (HV.out x (List.mem_of_getElem? hx)) hK)))
      obtain ⟨xo, xc, hxv, _, _⟩ := hg.val.form
      clear hst hk hkl hg hsz c1 c2 c3 ck cv hK hx
      go_wp2
      refine wp_region_plan (fun w0 => w0.heap[g0]? = some (.cells cur ty fr)) 18 [(0, false), (1, false), (2, false), (3, false), (4, false), (5, false), (6, false), (7, false), (8, false), (9, false), (10, false), (11, false), (12, true), (13, false), (14, false), (15, false), (16, false), (17, false)] (by kernel_rfl) (by kernel_rfl) ?_ ?_
      · exact HS.out.own.world.drew.row HC.out.1 id
      iterate 6
        refine plan_look rfl rfl (fun w0 hS => (by clear hS; go_simp; try rfl)) ?_
        simp only [Act.put, List.setIfInBounds_toArray, List.set_cons_succ, List.set_cons_zero]
      refine plan_load_part (cur := cur) (t := ty) (fr := fr) rfl rfl 34 _ rfl g0 (off + k * 33) 32 rfl (fun w0 hS => hS) Tryz.underlying34 rfl sizeP (by have := HC.out.2.1; omega) K HC.out.2.2.1 ?_
      simp only [Act.put, List.setIfInBounds_toArray, List.set_cons_succ, List.set_cons_zero]
      iterate 4
        refine plan_look rfl rfl (fun w0 hS => (by clear hS; go_simp; try rfl)) ?_
        simp only [Act.put, List.setIfInBounds_toArray, List.set_cons_succ, List.set_cons_zero]
      refine plan_look (v := .slice xo x.val.length xc) rfl rfl (fun w0 hS => (by have e0 := row_cell hS HC.out.2.2.2; rw [hxv] at e0; clear hS; go_simp; try rfl)) ?_
      simp only [Act.put, List.setIfInBounds_toArray, List.set_cons_succ, List.set_cons_zero]
      refine plan_do rfl ?_
      go_wp2_with fail
      have hg7 := HX.out.2.1.keep (HS.out.own.world.drew) (fun _ h => h.elim)
      have hb7 := hg7.val
      have hv7 := hg7.blk
      rw [hxv] at hb7 hv7
      have hP := Put_db (HS.out.own.adds (Ch.refl _ _).drew) HS.out.db hg7.key hb7 hv7 HX.out.2.2.1 (by have := HS.out.live; rw [HS.out.room]; omega) (by have := HS.out.total; omega)
      rw [← HX.out.2.2.2] at hP
      refine hP.mono ?_; rintro e w8 ⟨r, σ', rfl, o8, b8, W8, D8, _⟩
      have hst8 : St10 w w8 s σ' r (entsOf (l.take (k + 1))) 10320 (k + 1) := ⟨o8, by rw [entsOf_next HX.out.1]; exact D8, W8.room.trans HS.out.room, by have := W8.total; have := HS.out.total; omega, by have := W8.live; have := HS.out.live; omega, W8.sole HS.out.sole⟩
      have HR := Lib.hid hst8
      clear hP hg7 hb7 hv7 o8 b8 W8 D8 hst8
      dsimp only
      go_step
      refine wpList_nil ?_
      change _ ∧ _
      refine ⟨HR.out.own.world.row HC.out.1 id, ?_⟩
      iterate 5
        refine plan_look rfl rfl (fun w0 hS => (by clear hS; go_simp; try rfl)) ?_
        simp only [Act.put, List.setIfInBounds_toArray, List.set_cons_succ, List.set_cons_zero]
      refine plan_end ?_; simp only [List.drop_succ_cons, List.drop_zero]
      go_wp2
      refine NoPanic.normal ?_
      go_wp2_with fail
      go_roundg (gk - 1)
      case measure => have := HKG.out; omega
      case rel => exact ⟨k + 1, r, σ', rfl, rfl, by simp, by have := HKG.out; omega, HR.out⟩
end Go.Proofs.YtpeebeebakjpdaaGreat.Law10

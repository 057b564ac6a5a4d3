/- VersionsStay, plainly: a root that grows, names for it, digests noted beside. -/
import Derived.Test.YtfllneenonhonaaKnown14
import Derived.Sort.Walk0
import Derived.Test.YtfllneenonhonaaHashM
import Derived.Test.YtfllneenonhonaaInWr14
namespace Go.Proofs.Ytfllneenonhonaa.Law14
open Go Go.RowKit Go.Proofs.Ytfllneenonhonaa Go.Proofs.Ytfllneenonhonaa.ShaW Go.Proofs.Ytfllneenonhonaa.Path Go.Proofs.Ytfllneenonhonaa.Store Go.Proofs.Ytfllneenonhonaa.Law9
set_option maxHeartbeats 1600000
set_option linter.unusedVariables false

/-- Names, each with its root and that root's entries. -/
abbrev Nmd := List (List UInt8 × Int × Ents)
def nusM (M : Nmd) : Nms := M.map fun p => (p.1, p.2.1)
def hshM (M : Nmd) : Hms := M.map fun p => (p.1, (tree 256 p.2.2).dig)
def rtsM (M : Nmd) : List (Int × Ents) := M.map fun p => (p.2.1, p.2.2)
def namM (M : Nmd) : List (List UInt8) := M.map Prod.fst
theorem nusM_names (M : Nmd) : (nusM M).names = namM M := by simp [nusM, Nms.names, namM]
theorem hshM_names (M : Nmd) : (hshM M).names = namM M := by simp [hshM, Hms.names, namM]
theorem nusM_len (M : Nmd) : (nusM M).length = M.length := by simp [nusM]
theorem hshM_len (M : Nmd) : (hshM M).length = M.length := by simp [hshM]
theorem mem_namM {M : Nmd} {x : List UInt8} (h : x ∈ namM M) : ∃ p ∈ M, p.1 = x := by simpa [namM] using h
/-- What stands: versions, the map of digests, many roots. -/
structure Sty (w0 w : World) (s v bm xb : Nat) (σ : SlabSt Nd) (R : List (Int × Ents)) (M : Nmd) (κ : Hms) (ln tn : Nat) : Prop where
  vs : Vs w0 w v s σ (nusM M) (fun j => j = bm ∨ j = xb)
  rts : Roots σ R
  room : σ.room = 5160
  live : Store.live σ ≤ ln
  total : Store.total σ ≤ tn
  hm : HashAt w bm κ.length κ
  bb : w0.heap.size ≤ bm
section
variable {w0 w w' : World} {s v bm xb ln tn : Nat} {σ : SlabSt Nd} {root : Int} {L : Ents} {R : List (Int × Ents)} {M : Nmd} {κ : Hms}
theorem Sty.adds (h : Sty w0 w s v bm xb σ R M κ ln tn) (a : Adds w w') : Sty w0 w' s v bm xb σ R M κ ln tn := ⟨h.vs.adds a, h.rts, h.room, h.live, h.total, h.hm.keep a id, h.bb⟩
theorem Sty.world (h : Sty w0 w s v bm xb σ R M κ ln tn) : Adds w0 w := h.vs.world
theorem Sty.weak (h : Sty w0 w s v bm xb σ R M κ ln tn) {ln' tn' : Nat} (h1 : ln ≤ ln') (h2 : tn ≤ tn') : Sty w0 w s v bm xb σ R M κ ln' tn' := ⟨h.vs, h.rts, h.room, Nat.le_trans h.live h1, Nat.le_trans h.total h2, h.hm, h.bb⟩
theorem Sty.at (h : Sty w0 w s v bm xb σ R M κ ln tn) : ∃ F, At w s F σ := h.vs.ow.at
theorem hash_but {w w' : World} {bm xb n : Nat} {κ : Hms} (h : HashAt w bm n κ) (hb : But (fun j => j = bm ∨ j = xb) w w') : HashAt w' bm n κ := h.keep hb (fun h => h (.inl rfl))
theorem Sty.nd (h : Sty w0 w s v bm xb σ R M κ ln tn) : (namM M).Nodup := by
  obtain ⟨m, _, _, h3, _⟩ := h.vs
  rw [← nusM_names]
  exact h3.nd
theorem Sty.lens (h : Sty w0 w s v bm xb σ R M κ ln tn) {x : List UInt8} (hx : x ∈ namM M) : x.length ≤ maxLen := by
  obtain ⟨m, _, _, h3, _⟩ := h.vs
  exact h3.len x (by rw [nusM_names]; exact hx)
theorem Sty.slots (h : Sty w0 w s v bm xb σ R M κ ln tn) : σ.slots.length ≤ 65536 := by
  obtain ⟨F, hF⟩ := h.at
  have := hF.len
  have := hF.room
  omega
theorem Sty.put (h : Sty w0 w s v bm xb σ ((root, L) :: R) M κ ln tn) {key : List UInt8} (hk : key.length = 32) {vv : Value} {bs : List UInt8} (hb : Bytes w vv bs) (hv : bs ≠ [] → ∀ k, vv.ownBlock = some k → k < w.heap.size) (hl : bs.length ≤ 1024) (h1 : ln + 258 ≤ 5160) (h2 : tn ≤ 100000) :
    Calls Try.prog 38 #[.pointer (some ⟨s, 0, none⟩), .int .i64 root, .agg (brow key), vv] w fun e w' => ∃ (r : Int) (σ' : SlabSt Nd), e = .returned (.tuple #[.int .i64 r, .int .i64 0]) ∧ Sty w0 w' s v bm xb σ' ((r, upd L key bs) :: R) M κ (ln + 258) (tn + 600) := by
  obtain ⟨m, ho, hst⟩ := h.vs.step
  have := h.live
  have := h.total
  refine (Put_roots ho h.rts hk hb hv hl (by rw [h.room]; omega) (by omega)).mono ?_
  rintro e w' ⟨r, σ', rfl, o, b, W, D, _, _⟩
  obtain ⟨hv', hb'⟩ := hst o b
  exact ⟨r, σ', rfl, hv', D, W.room.trans h.room, by have := W.live; omega, by have := W.total; omega, hash_but h.hm hb', h.bb⟩
theorem Sty.long (h : Sty w0 w s v bm xb σ R M κ ln tn) (root : Int) (K : Array Value) (ao : Option Addr) (len cap : Nat) (hl : 1024 < len) :
    Calls Try.prog 38 #[.pointer (some ⟨s, 0, none⟩), .int .i64 root, .agg K, .slice ao len cap] w fun e w' => e = .returned (.tuple #[.int .i64 0, .int .i64 4]) ∧ Adds w w' := by
  obtain ⟨F, hF⟩ := h.at
  exact Put_long hF root K ao len cap hl
theorem Sty.addNo (h : Sty w0 w s v bm xb σ ((root, L) :: R) M κ ln tn) {x : List UInt8} (hx : x.length ≤ maxLen) (hn : ¬ (nameB x = true ∧ x ∉ namM M ∧ M.length < 16)) :
    ∃ c : Int, c ≠ 0 ∧ Calls Try.prog 34 #[.pointer (some ⟨v, 0, none⟩), .string (bstr x), .int .i64 root] w fun e w' => e = .returned (.int .i64 c) ∧ Adds w w' := by
  have h0 : addErr σ (nusM M) x root ≠ 0 := by
    unfold addErr
    rw [nusM_names, nusM_len, rootErr_roots h.rts (p := (root, L)) (List.mem_cons_self ..)]
    by_cases e1 : nameB x = false
    · rw [if_pos e1]; decide
    · rw [if_neg e1, if_neg (by simp)]
      by_cases e2 : x ∈ namM M
      · rw [if_pos e2]; decide
      · rw [if_neg e2]
        by_cases e3 : 16 ≤ M.length
        · rw [if_pos e3]; decide
        · exact absurd ⟨by simpa using e1, e2, by omega⟩ hn
  exact ⟨_, h0, h.vs.addNo hx root h0⟩
theorem Sty.add (h : Sty w0 w s v bm xb σ ((root, L) :: R) M κ ln tn) {x : List UInt8} (hx : x.length ≤ maxLen) (hn : nameB x = true ∧ x ∉ namM M ∧ M.length < 16) (h2 : tn ≤ 100000) :
    Calls Try.prog 34 #[.pointer (some ⟨v, 0, none⟩), .string (bstr x), .int .i64 root] w fun e w' => ∃ σ' : SlabSt Nd, e = .returned (.int .i64 0) ∧ Sty w0 w' s v bm xb σ' ((root, L) :: (root, L) :: R) ((x, root, L) :: M) κ ln (tn + 1) := by
  obtain ⟨n1, n2, n3⟩ := hn
  have ht := h.total
  have hc : addErr σ (nusM M) x root = 0 := by
    unfold addErr
    rw [nusM_names, nusM_len, if_neg (by rw [n1]; decide), if_neg (by rw [rootErr_roots h.rts (p := (root, L)) (List.mem_cons_self ..)]; simp), if_neg n2, if_neg (by omega)]
  have hset : (nusM M).set x root = nusM ((x, root, L) :: M) := by
    unfold Nms.set
    rw [Nms.cut_none (by rw [nusM_names]; exact n2)]
    rfl
  have hwf := roots_wf h.rts (p := (root, L)) (List.mem_cons_self ..) h.slots
  by_cases h0 : root = 0
  · subst h0
    refine (h.vs.add hx hc (fun h => absurd rfl h) hwf).mono ?_
    rintro e w' ⟨he, hv, hb⟩
    have e0 : holdV σ 0 = σ := by unfold holdV; rw [if_pos rfl]
    rw [e0, hset] at hv
    refine ⟨σ, he, hv, ?_, h.room, h.live, by omega, hash_but h.hm hb, h.bb⟩
    exact ⟨h.rts.good, fun k hk => by rw [h.rts.held k hk, roots_cons (0, L) ((0, L) :: R), if_neg hk]; rfl, fun p hp => (List.mem_cons.1 hp).elim (fun e => h.rts.rep p (by rw [e]; exact List.mem_cons_self ..)) (h.rts.rep p),
      fun p hp => (List.mem_cons.1 hp).elim (fun e => h.rts.nodup p (by rw [e]; exact List.mem_cons_self ..)) (h.rts.nodup p), fun p hp => (List.mem_cons.1 hp).elim (fun e => h.rts.len p (by rw [e]; exact List.mem_cons_self ..)) (h.rts.len p)⟩
  · have hh := h.rts.hold h0 (by omega)
    refine (h.vs.add hx hc (fun _ => hh.1) hwf).mono ?_
    rintro e w' ⟨he, hv, hb⟩
    have e0 : holdV σ root = (holdS σ root).2 := by unfold holdV; rw [if_neg h0]
    rw [e0, hset] at hv
    exact ⟨(holdS σ root).2, he, hv, hh.2.1, hh.2.2.2.2.trans h.room, by rw [hh.2.2.1]; exact h.live, by rw [hh.2.2.2.1]; omega, hash_but h.hm hb, h.bb⟩
theorem Sty.digest (h : Sty w0 w s v bm xb σ R M κ ln tn) {p : Int × Ents} (hp : p ∈ R) :
    Calls Try.prog 29 #[.pointer (some ⟨s, 0, none⟩), .int .i64 p.1] w fun e w' => e = .returned (.agg (brow (tree 256 p.2).dig)) ∧ Adds w w' := by
  obtain ⟨F, hF⟩ := h.at
  have := Digest_ok hF p.1
  rw [(h.rts.db hp).digest] at this
  exact this
theorem Sty.note (h : Sty w0 w s v bm xb σ R M κ ln tn) (hk : κ.length < 100) {x : List UInt8} (hx : x.length ≤ maxLen) (hf : x ∉ κ.names) (d : List UInt8) :
    ∃ w', (Instr.mapUpdate 83 (.map (some bm)) (.string (bstr x)) (hashV d)).run Try.prog w = .ok () w' ∧ Sty w0 w' s v bm xb σ R M ((x, d) :: κ) ln tn := by
  obtain ⟨w', hr, hh, hc⟩ := h.hm.put (by unfold maxLen; omega) hx hf d
  exact ⟨w', hr, h.vs.beside hc (fun k hk => ⟨.inl hk, by rw [show k = bm from hk]; exact h.bb⟩), h.rts, h.room, h.live, h.total, hh, h.bb⟩
/-- The growing root is let go. -/
theorem Sty.drop (h : Sty w0 w s v bm xb σ ((root, L) :: R) M κ ln tn) (h0 : root ≠ 0) :
    Calls Try.prog 41 #[.pointer (some ⟨s, 0, none⟩), .int .i64 root] w fun e w' => ∃ (n : Int) (σ' : SlabSt Nd), e = .returned (.tuple #[.int .i64 n, .int .i64 0]) ∧ Sty w0 w' s v bm xb σ' R M κ ln tn ∧ But (fun j => j = bm ∨ j = xb) w w' := by
  obtain ⟨m, ho, hst⟩ := h.vs.step
  obtain ⟨g0, g1, g2, g3, g4⟩ := h.rts.drop h0
  have hd := ho.drop root
  rw [g0] at hd
  refine hd.mono ?_
  rintro e w' ⟨he, o, b⟩
  obtain ⟨hv', hb'⟩ := hst o b
  exact ⟨_, (dropS σ root).2.2, he, ⟨hv', g1, g4.trans h.room, Nat.le_trans g2 h.live, Nat.le_trans g3 h.total, hash_but h.hm hb', h.bb⟩, hb'⟩
theorem Sty.less (h : Sty w0 w s v bm xb σ ((0, L) :: R) M κ ln tn) : Sty w0 w s v bm xb σ R M κ ln tn := ⟨h.vs, h.rts.less, h.room, h.live, h.total, h.hm, h.bb⟩
def cutM (M : Nmd) (x : List UInt8) : Nmd := M.filter fun p => !decide (p.1 = x)
theorem nusM_cut (M : Nmd) (x : List UInt8) : (nusM M).cut x = nusM (cutM M x) := by
  unfold nusM Nms.cut cutM
  rw [List.filter_map]
  rfl
theorem rtsM_cut : ∀ {M : Nmd} {p : List UInt8 × Int × Ents}, (namM M).Nodup → p ∈ M → (rtsM M).Perm ((p.2.1, p.2.2) :: rtsM (cutM M p.1))
  | [], p, _, h => by cases h
  | q :: M, p, hn, h => by
    obtain ⟨n1, n2⟩ := List.nodup_cons.1 (show (q.1 :: namM M).Nodup from hn)
    rcases List.mem_cons.1 h with rfl | hp
    · have : cutM (p :: M) p.1 = M := by
        unfold cutM
        rw [List.filter_cons, if_neg (by simp)]
        refine List.filter_eq_self.2 fun r hr => ?_
        have : r.1 ≠ p.1 := fun e => n1 (by rw [← e]; exact List.mem_map_of_mem hr)
        simp [this]
      rw [this]
      exact .refl _
    · have hne : q.1 ≠ p.1 := fun e => n1 (by rw [e]; exact List.mem_map_of_mem hp)
      have : cutM (q :: M) p.1 = q :: cutM M p.1 := by unfold cutM; rw [List.filter_cons, if_pos (by simp [hne])]
      rw [this]
      exact ((rtsM_cut n2 hp).cons (q.2.1, q.2.2)).trans (List.Perm.swap ..)
theorem nusM_get {M : Nmd} (hn : (namM M).Nodup) {p : List UInt8 × Int × Ents} (hp : p ∈ M) : (nusM M).get p.1 = p.2.1 := by
  have : (p.1, p.2.1) ∈ nusM M := List.mem_map_of_mem (f := fun p : List UInt8 × Int × Ents => (p.1, p.2.1)) hp
  exact Nms.get_mem (by rw [nusM_names]; exact hn) this
theorem hshM_get {M : Nmd} (hn : (namM M).Nodup) {p : List UInt8 × Int × Ents} (hp : p ∈ M) : (hshM M).get p.1 = (tree 256 p.2.2).dig := by
  have : (p.1, (tree 256 p.2.2).dig) ∈ hshM M := List.mem_map_of_mem (f := fun p : List UInt8 × Int × Ents => (p.1, (tree 256 p.2.2).dig)) hp
  exact Hms.get_mem (by rw [hshM_names]; exact hn) this
theorem Sty.rootIs (h : Sty w0 w s v bm xb σ R M κ ln tn) {p : List UInt8 × Int × Ents} (hp : p ∈ M) :
    Calls Try.prog 40 #[.pointer (some ⟨v, 0, none⟩), .string (bstr p.1)] w fun e w' => e = .returned (.tuple #[.int .i64 p.2.1, .int .i64 0]) ∧ w = w' := by
  have hm : p.1 ∈ namM M := List.mem_map_of_mem hp
  have := h.vs.root (x := p.1) (h.lens hm)
  rw [nusM_names, if_pos hm, nusM_get h.nd hp] at this
  exact this
theorem Sty.cut (h : Sty w0 w s v bm xb σ (rtsM M) M κ ln tn) {p : List UInt8 × Int × Ents} (hp : p ∈ M) :
    Calls Try.prog 42 #[.pointer (some ⟨v, 0, none⟩), .string (bstr p.1)] w fun e w' => ∃ (n : Int) (σ' : SlabSt Nd), e = .returned (.tuple #[.int .i64 n, .int .i64 0]) ∧ Sty w0 w' s v bm xb σ' (rtsM (cutM M p.1)) (cutM M p.1) κ ln tn ∧ But (fun j => j = bm ∨ j = xb) w w' := by
  have hm : p.1 ∈ namM M := List.mem_map_of_mem hp
  have hr := h.rts.perm (rtsM_cut h.nd hp)
  refine (h.vs.cut (x := p.1) (h.lens hm) (by rw [nusM_names]; exact hm) (nusM_get h.nd hp)).mono ?_
  rintro e w' ⟨he, hv, hb⟩
  rw [nusM_cut] at hv
  by_cases h0 : p.2.1 = 0
  · have e0 : dropV σ p.2.1 = σ := by unfold dropV; rw [if_pos h0]
    rw [e0] at hv
    rw [h0] at hr
    exact ⟨_, σ, he, ⟨hv, hr.less, h.room, h.live, h.total, hash_but h.hm hb, h.bb⟩, hb⟩
  · have e0 : dropV σ p.2.1 = (dropS σ p.2.1).2.2 := by unfold dropV; rw [if_neg h0]
    rw [e0] at hv
    obtain ⟨g0, g1, g2, g3, g4⟩ := hr.drop h0
    exact ⟨_, _, he, ⟨hv, g1, g4.trans h.room, Nat.le_trans g2 h.live, Nat.le_trans g3 h.total, hash_but h.hm hb, h.bb⟩, hb⟩
theorem Sty.occupied (h : Sty w0 w s v bm xb σ [] M κ ln tn) : Calls Try.prog 43 #[.pointer (some ⟨s, 0, none⟩)] w fun e w' => e = .returned (.int .i64 0) ∧ w = w' := by
  obtain ⟨F, hF⟩ := h.at
  have := Occupied_ok hF
  have hl : Store.live σ = 0 := live_nodes h.rts.good (root := 0) .nil (fun k hk => by
    by_cases e : k = 0
    · exact e
    · rw [h.rts.held k e] at hk
      simp [Store.roots] at hk)
  rw [h.rts.good.used, hl] at this
  exact this
end
section
variable {w0 w w' : World} {s v bm xb ln tn : Nat} {σ : SlabSt Nd} {R : List (Int × Ents)} {M : Nmd} {κ : Hms}
theorem Sty.dlen (h : Sty w0 w s v bm xb σ R M κ ln tn) {p : Int × Ents} (hp : p ∈ R) : (tree 256 p.2).dig.length = 32 := by
  obtain ⟨F, hF⟩ := h.at
  have := hF.digest_length p.1
  rwa [(h.rts.db hp).digest] at this
theorem hms_len {κ : Hms} (h : ∀ p ∈ κ, p.2.length = 32) (x : List UInt8) : (κ.get x).length = 32 := by
  unfold Hms.get
  cases e : κ.find? (fun p => decide (p.1 = x)) with
  | none => rfl
  | some p => exact h p (List.mem_of_find?_eq_some e)
theorem Sty.hlen (h : Sty w0 w s v bm xb σ R M (hshM M) ln tn) (hR : ∀ p ∈ rtsM M, p ∈ R) (x : List UInt8) : ((hshM M).get x).length = 32 :=
  hms_len (fun p hp => by
    obtain ⟨q, hq, rfl⟩ := List.mem_map.1 hp
    exact h.dlen (p := (q.2.1, q.2.2)) (hR _ (List.mem_map_of_mem (f := fun p : List UInt8 × Int × Ents => (p.2.1, p.2.2)) hq))) x
theorem Sty.pos {root : Int} {L : Ents} (h : Sty w0 w s v bm xb σ ((root, L) :: R) M κ ln tn) (h0 : root ≠ 0) : 0 < root := by
  rcases h.rts.there (p := (root, L)) (List.mem_cons_self ..) with e | h1
  · exact absurd e h0
  · obtain ⟨x, hx, _⟩ := held_there h1
    obtain ⟨m, hm, _, hp, hlt⟩ := SlabSt.get?_some hx
    have : (root, L).1 = root := rfl
    omega
/-- A row of names comes beside. -/
theorem Sty.extra (h : Sty w0 w s v bm bm σ R M κ ln tn) (a : Adds w w') {g : Nat} (hg : w.heap.size ≤ g ∧ g < w'.heap.size) : Sty w0 w' s v bm g σ R M κ ln tn :=
  ⟨h.vs.more a (fun k hk => hk.imp .inl (fun e => by rw [e]; exact hg)), h.rts, h.room, h.live, h.total, h.hm.keep a id, h.bb⟩
theorem Sty.start (h : Vs w0 w v s ⟨5160, [], []⟩ [] (fun _ => False)) (hw : Adds w0 w) : Sty w0 (w.alloc (.map #[] 0)) s v w.heap.size w.heap.size ⟨5160, [], []⟩ [(0, [])] [] [] 0 0 :=
  ⟨h.more ((Ch.refl _ _).alloc _) (fun k hk => .inr (by have e : k = w.heap.size := hk.elim id id; subst e; simp)), (Roots.new 5160 (by decide) (by decide)).zero, rfl, Nat.le_refl _, Nat.le_refl _, HashAt.made w, hw.size⟩
end
/-- A row of names in block xb. -/
def NmRow (w : World) (xb : Nat) (ao : Option Addr) (l : List (List UInt8)) : Prop := ∀ (k : Nat) x, l[k]? = some x → ao = some ⟨xb, 0, none⟩ ∧ w.cell? ⟨xb, k, none⟩ = some (.string (bstr x))
theorem NmRow.adds {w w' : World} {xb : Nat} {ao : Option Addr} {l : List (List UInt8)} (h : NmRow w xb ao l) (a : Adds w w') : NmRow w' xb ao l := fun k x hx => ⟨(h k x hx).1, a.cell (h k x hx).2 id⟩
theorem NmRow.but {w w' : World} {bm xb : Nat} {ao : Option Addr} {l : List (List UInt8)} (h : NmRow w xb ao l) (hb : But (fun j => j = bm ∨ j = xb) w w') : NmRow w' xb ao l := fun k x hx => ⟨(h k x hx).1, Ch.cell hb (h k x hx).2 (fun hn => hn (.inr rfl))⟩
/-- What Names hands over stays beside. -/
theorem Sty.names {w0 w w' : World} {s v bm ln tn : Nat} {σ : SlabSt Nd} {R : List (Int × Ents)} {M : Nmd} {κ : Hms} (h : Sty w0 w s v bm bm σ R M κ ln tn) (a : Adds w w') {q : Value} (hq : w'.ownsRow w.heap.size 9 1 q (nusM M).length ((sortN (nusM M)).map encStr)) :
    ∃ ao cap xb, q = .slice ao M.length cap ∧ NmRow w' xb ao (sortN (nusM M)) ∧ Sty w0 w' s v bm xb σ R M κ ln tn := by
  rw [nusM_len] at hq
  obtain ⟨hl, h0 | ⟨g, cap, cur, rfl, hg, hr, h1, h2, h3, h4⟩⟩ := hq
  · obtain ⟨rfl, hm⟩ := h0
    refine ⟨none, 0, bm, by rw [hm], fun k x hx => ?_, h.adds a⟩
    have := (List.getElem?_eq_some_iff.1 hx).1
    rw [sortN_length, nusM_len] at this
    omega
  · refine ⟨some ⟨g, 0, none⟩, cap, g, rfl, fun k x hx => ⟨rfl, row_cell hr ?_⟩, h.extra a ⟨hg, row_lt hr⟩⟩
    have hk := (List.getElem?_eq_some_iff.1 hx).1
    rw [sortN_length, nusM_len] at hk
    have h5 : ((sortN (nusM M)).map encStr)[k]? = some (encStr x) := by rw [List.getElem?_map, hx]; rfl
    rw [← h4, List.getElem?_take_of_lt (by omega), Array.getElem?_toList] at h5
    exact h5
theorem sortN_rise {M : Nmd} (hn : (namM M).Nodup) {k : Nat} {x y : List UInt8} (hx : (sortN (nusM M))[k]? = some x) (hy : (sortN (nusM M))[k + 1]? = some y) : Op.bytesLess y x = false ∧ (y == x) = false := by
  have tr : ∀ a b c : List UInt8, leB a b = true → leB b c = true → leB a c = true := fun a b c h1 h2 => by simp only [leB, decide_eq_true_eq] at *; exact List.le_trans h1 h2
  have tot : ∀ a b : List UInt8, (leB a b || leB b a) = true := fun a b => by simp only [leB, Bool.or_eq_true, decide_eq_true_eq]; exact List.le_total a b
  have hp := List.pairwise_mergeSort tr tot (nusM M).names
  have hd : (sortN (nusM M)).Nodup := by
    unfold sortN
    rw [(List.mergeSort_perm _ leB).nodup_iff, nusM_names]
    exact hn
  obtain ⟨hk1, rfl⟩ := List.getElem?_eq_some_iff.1 hx
  obtain ⟨hk2, rfl⟩ := List.getElem?_eq_some_iff.1 hy
  have h1 := List.pairwise_iff_getElem.1 hp k (k + 1) hk1 hk2 (Nat.lt_succ_self k)
  have h2 := List.pairwise_iff_getElem.1 hd k (k + 1) hk1 hk2 (Nat.lt_succ_self k)
  refine ⟨?_, by simpa using Ne.symm h2⟩
  rw [bytesLess_eq]
  refine decide_eq_false fun h => ?_
  simp only [leB, decide_eq_true_eq] at h1
  exact absurd h (List.not_lt.2 h1)
theorem sortN_entry {M : Nmd} {x : List UInt8} (h : x ∈ sortN (nusM M)) : ∃ p ∈ M, p.1 = x := mem_namM (by rw [← nusM_names]; exact sortN_mem.1 h)
theorem sortN_nodup {M : Nmd} (hn : (namM M).Nodup) : (sortN (nusM M)).Nodup := by
  unfold sortN
  rw [(List.mergeSort_perm _ leB).nodup_iff, nusM_names]
  exact hn
/-- What is left when so many names are gone. -/
def leftM (M : Nmd) (l : List (List UInt8)) : Nmd := M.filter fun p => !decide (p.1 ∈ l)
theorem leftM_nil (M : Nmd) : leftM M [] = M := List.filter_eq_self.2 fun p _ => by simp
theorem leftM_next (M : Nmd) (l : List (List UInt8)) (x : List UInt8) : leftM M (l ++ [x]) = cutM (leftM M l) x := by
  unfold leftM cutM
  rw [List.filter_filter]
  refine List.filter_congr fun p _ => ?_
  by_cases h1 : p.1 ∈ l <;> by_cases h2 : p.1 = x <;> simp [h1, h2]
theorem leftM_all {M : Nmd} {l : List (List UInt8)} (h : ∀ x ∈ namM M, x ∈ l) : leftM M l = [] := by
  unfold leftM
  refine List.filter_eq_nil_iff.2 fun p hp => ?_
  simp [h p.1 (List.mem_map_of_mem hp)]
theorem leftM_mem {M : Nmd} {l : List (List UInt8)} {p : List UInt8 × Int × Ents} (hp : p ∈ M) (h : p.1 ∉ l) : p ∈ leftM M l := List.mem_filter.2 ⟨hp, by simp [h]⟩
end Go.Proofs.Ytfllneenonhonaa.Law14

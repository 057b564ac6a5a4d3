/- Laws of the layers below. -/
import Derived.Test.YtmeglndnkdgkoaaGreatQc35
import Derived.RangeFuncFrom
import Derived.RangeFuncNested
import Derived.RangeFuncBound
import Derived.RangeFuncCalls
import Derived.RangeFuncLeaves
import Derived.OwnWalkIn
import Derived.TacticsInMore
import Derived.LoopNIn
import Derived.LoopIn
import Derived.Stop.RegionWithIn
set_option maxHeartbeats 3200000
set_option maxRecDepth 100000
set_option linter.unusedVariables false
namespace Go.Proofs.YtmeglndnkdgkoaaGreat.Store
open Go.RowKit Go.Proofs.YtmeglndnkdgkoaaGreat.ShaW Go.Proofs.YtmeglndnkdgkoaaGreat.Path
open Go.Maps (Keyed keyOf_int_mk)
section
variable {σ : SlabSt Nd} {R : List Int} {k k1 k2 : Wk} {a b x : Int}
theorem mem_le_sum {α:Type} {f:α → Nat} {l:List α} {y:α} (h:y ∈ l):f y ≤ (l.map f).sum:=by
 induction l with
 | nil => cases h
 | cons z l ih =>
  simp only [List.map_cons,List.sum_cons]
  rcases List.mem_cons.1 h with rfl | h
  · omega
  have:=ih h; omega
theorem Wanting.of_fro (H:Wanting σ R k.todo.length k) (h:Fro σ R x):x ∈ k.todo:=by
 have step:∀ {y z:Int},y ∈ k.todo → z ≠ 0 → 1 ≤ refs (nd σ y) z → z ∈ k.todo:=fun {y z} hy hz hr => by
  refine (H.mem z).2 ?_
  rw [H.cnt' hz]
  have:refs (nd σ y) z ≤ (k.todo.map fun q => refs (nd σ q) z).sum:=mem_le_sum (f:=fun q => refs (nd σ q) z) hy
  omega
 induction h with
 | root h1 h2 =>
  refine (H.mem _).2 ?_
  rw [H.cnt' h2]
  have:=List.count_pos_iff.2 h1
  omega
 | left _ h2 ih => exact step ih h2 (by unfold refs; rw [if_pos rfl]; omega)
 | right _ h2 ih => exact step ih h2 (by unfold refs; rw [if_pos (c:=_ = (nd σ _).right) rfl]; omega)
theorem Wanting.mem_fro (H:Wanting σ R k.todo.length k):x ∈ k.todo ↔ Fro σ R x:=⟨H.fro x,H.of_fro⟩
def Up (l:List Int):Prop := ∀ i x y,l[i]? = some x → l[i + 1]? = some y → x < y
structure PartsF (σ:SlabSt Nd) (la lb lc ld:List Int):Prop where
 small:∀ x,x ∈ la ∨ x ∈ lb ∨ x ∈ lc ∨ x ∈ ld → 0 ≤ x ∧ x ≤ 65536
 both:∀ x,x ∈ lc ↔ x ∈ la ∨ x ∈ lb
 nodup:lc.Nodup
 upc:Up lc
 upd:Up ld
 lost:∀ x ∈ ld,has σ x = true ∧ x ∉ lc
 all:lc.length + ld.length = σ.used
 lenA:la.length ≤ 65536
 lenB:lb.length ≤ 65536
theorem handles_le (G:Good σ):(handles σ).length ≤ 65536:=by
 have h2:(handles σ).length ≤ σ.slots.length:=SlabSt.occ_len σ _
 have:=G.sound.wf.len
 have:=G.sound.wf.room
 omega
def insI (x:Int) (S:List Int):List Int:=if x ∈ S then S else x :: S
noncomputable abbrev elemBI:Value → Option (DataW Value × List MemPlace):=plainElem Tryz.prog 4
structure ISet (w:World) (b n:Nat) (S:List Int):Prop where
 ex:∃ D,w.ownsMap Tryz.prog 3 elemBI b n D ∧ Maps.size D = S.length ∧ ∀ x:Int,D.atKey (ky x) (.lit (.bool false)) = .lit (.bool (decide (x ∈ S))) ∧ Maps.has D (ky x) = decide (x ∈ S)
end
section
variable {w : World} {s : Nat} {F : Nat → Prop} {σ : SlabSt Nd} {R : List Int} {ao : Option Addr}
def AuditRet (w w':World) (σ:SlabSt Nd) (R:List Int) (pick:Wk → List Int) (e:Ending):Prop :=
 ∃ (qo:Option Addr) (qc:Nat) (l:List Int),e = .returned (.tuple #[.slice qo l.length qc,.int .i64 (chk σ R)]) ∧ w'.ownsRow w.heap.size 3 1 (.slice qo l.length qc) l.length (intL l) ∧ Adds w w' ∧
  ((chk σ R ≠ 0 ∧ l = []) ∨ (chk σ R = 0 ∧ ∃ k,Wanting σ R k.todo.length k ∧ l = pick k))
end
end Go.Proofs.YtmeglndnkdgkoaaGreat.Store
namespace Go.Proofs.YtmeglndnkdgkoaaGreat.Store
open Go.RowKit Go.Proofs.YtmeglndnkdgkoaaGreat.ShaW Go.Proofs.YtmeglndnkdgkoaaGreat.Path
theorem count_get {σ:SlabSt Nd} {h:Int} {x:Nd × Nat} (hx:σ.get? h = some x):σ.count h = x.2:=by unfold SlabSt.count; rw [hx]; rfl
theorem Rep.leaf_inv {f:View} {h:Int} {d:Nat} {k v:List UInt8} (hr:Rep f h d (.leaf k v)):∃ n,f h = some n ∧ n.kind = 1 ∧ n.key = k ∧ n.value = v:=by
 generalize ht:Tr.leaf k v = t at hr
 cases hr with
 | nil => cases ht
 | leaf hn hk => injection ht with e1 e2; exact ⟨_,hn,hk,e1.symm,e2.symm⟩
 | node _ _ _ _ _ => cases ht
theorem Rep.node_inv {f:View} {h:Int} {d:Nat} {l r:Tr} (hr:Rep f h d (.node l r)):∃ n,f h = some n ∧ n.kind = 2 ∧ Rep f n.left (d + 1) l ∧ Rep f n.right (d + 1) r:=by
 generalize ht:Tr.node l r = t at hr
 cases hr with
 | nil => cases ht
 | leaf _ _ => cases ht
 | node hn hk _ h1 h2 => injection ht with e1 e2; subst e1 e2; exact ⟨_,hn,hk,h1,h2⟩
def L2:Ents:=upd (upd [] (keyL 0) []) (keyL 128) []
theorem tree_L2:tree 256 L2 = .node (.leaf (keyL 0) []) (.leaf (keyL 128) []):=by
 have h:=ins_tree (L:=upd [] (keyL 0) []) (k:=keyL 128) (v := []) 256 (Nat.le_refl _) ⟨by decide,by decide,fun _ _ _ h => absurd h (Nat.not_lt_zero _)⟩ rfl
 have h2:ins (keyL 128) [] (256 - 256) (tree 256 (upd [] (keyL 0) [])) = .node (.leaf (keyL 0) []) (.leaf (keyL 128) []):=by kernel_rfl
 exact h.symm.trans h2
structure TwoS (σ:SlabSt Nd) (r:Int):Prop where
 db:Db σ r L2
 sole:Sole σ r
 live:Store.live σ = 3
 span:σ.slots.length ≤ 516
 ne:r ≠ 0
theorem sum_one {f:Nat → Nat} {r:Nat}:∀ {l:List Nat},l.Nodup → (∀ x ∈ l,x ≠ r → f x = 0) → (l.map f).sum ≤ f r
 | [],_,_ => by simp
 | a :: l,hn,h => by
  obtain ⟨h1,h2⟩:=List.nodup_cons.1 hn
  simp only [List.map_cons,List.sum_cons]
  by_cases e:a = r
  · subst e
    have:(l.map f).sum = 0:=sum_zero _ fun x hx => by
     obtain ⟨y,hy,rfl⟩:=List.mem_map.1 hx
     exact h y (List.mem_cons_of_mem _ hy) (fun e => h1 (e ▸ hy))
    omega
  have:=sum_one h2 (fun x hx => h x (List.mem_cons_of_mem _ hx))
  rw [h a (List.mem_cons_self ..) e]
  omega
section
variable {σ : SlabSt Nd} {r : Int}
theorem TwoS.held (T:TwoS σ r):Store.held σ r = 1:=(T.sole r (T.db.held.resolve_left T.ne)).2
theorem TwoS.held' (T:TwoS σ r) {h:Int} (hh:h ≠ r):Store.held σ h = 0:=by
 have h1:=held_nonneg T.db.good.sound h
 by_cases e:1 ≤ Store.held σ h
 · exact absurd (T.sole h e).1 hh
 omega
theorem TwoS.heldR (T:TwoS σ r) (h:Int):Store.held σ h = if h = r then 1 else 0:=by
 by_cases e:h = r
 · rw [if_pos e,e]; exact T.held
 rw [if_neg e]; exact T.held' e
theorem TwoS.nodes (T:TwoS σ r):∃ a b,(nd σ r).left = a ∧ (nd σ r).right = b ∧ a ≠ r ∧ b ≠ r ∧ a ≠ b ∧ ∀ h x,σ.get? h = some x → h = r ∨ ((h = a ∨ h = b) ∧ (nd σ h).left = 0 ∧ (nd σ h).right = 0):=by
 have hr:=T.db.rep
 rw [tree_L2] at hr
 obtain ⟨n,hn,hk,hl,hrr⟩:=hr.node_inv
 obtain ⟨na,ha,ka,kka,_⟩:=hl.leaf_inv
 obtain ⟨nb,hb,kb,kkb,_⟩:=hrr.leaf_inv
 obtain ⟨xr,hxr,rfl⟩:=sk_get hn
 obtain ⟨xa,hxa,rfl⟩:=sk_get ha
 obtain ⟨xb,hxb,rfl⟩:=sk_get hb
 have la:=(T.db.good.fit.leaf ha (by omega)).2
 have lb:=(T.db.good.fit.leaf hb (by omega)).2
 have hne:(stat xr.1).left ≠ (stat xr.1).right:=fun e => by
  rw [e,hxb] at hxa
  cases hxa
  rw [kka] at kkb
  exact absurd kkb (by decide +kernel)
 have h1:(stat xr.1).left ≠ r:=fun e => by rw [e,hxr] at hxa; cases hxa; omega
 have h2:(stat xr.1).right ≠ r:=fun e => by rw [e,hxr] at hxb; cases hxb; omega
 refine ⟨(stat xr.1).left,(stat xr.1).right,by rw [nd_some hxr]; rfl,by rw [nd_some hxr]; rfl,h1,h2,hne,fun h x hx => ?_⟩
 by_cases e1:h = r
 · exact .inl e1
 refine .inr ?_
 by_cases e2:h = (stat xr.1).left
 · subst e2; exact ⟨.inl rfl,by rw [nd_some hxa]; exact la.left,by rw [nd_some hxa]; exact la.right⟩
 by_cases e3:h = (stat xr.1).right
 · subst e3; exact ⟨.inr rfl,by rw [nd_some hxb]; exact lb.left,by rw [nd_some hxb]; exact lb.right⟩
 exfalso
 have:=nodup_len (σ:=σ) (l := [h,r,(stat xr.1).left,(stat xr.1).right]) (by simp [e1,e2,e3,h1.symm,h2.symm,hne]) (fun y hy => by
  simp only [List.mem_cons,List.not_mem_nil,or_false] at hy
  rcases hy with rfl | rfl | rfl | rfl
  · exact has_some hx
  · exact has_some hxr
  · exact has_some hxa
  exact has_some hxb)
 rw [handles_length,T.live] at this
 simp at this
theorem TwoS.count (T:TwoS σ r) {h:Int} {x:Nd × Nat} (hx:σ.get? h = some x):σ.count h = 1:=by
 obtain ⟨a,b,ea,eb,har,hbr,hab,hall⟩:=T.nodes
 have h0:=get_ne hx
 have hc:=T.db.good.sound.counts h x hx
 rw [count_get hx]
 have hne:x.2 ≠ 0:=by obtain ⟨_,_,_,h0,_⟩:=SlabSt.get?_some hx; exact h0
 have hs:sides σ h ≤ refs (nd σ r) h:=by
  rw [← sides_handles h]
  obtain ⟨xr,hxr,_⟩:=held_there (σ:=σ) (h:=r) (by rw [T.held]; omega)
  obtain ⟨m,hm,e⟩:=(mem_handles r).1 ⟨xr,hxr⟩
  rw [e]
  refine sum_one handles_nodup fun y hy hne => ?_
  obtain ⟨z,hz⟩:=(mem_handles (y:Int)).2 ⟨y,hy,rfl⟩
  rcases hall y z hz with e2 | ⟨_,h1,h2⟩
  · exact absurd (Int.ofNat_inj.1 (e2.trans e)) hne
  unfold refs
  rw [h1,h2,if_neg (Ne.symm h0)]
 have hr:refs (nd σ r) h ≤ (if h = r then 0 else 1):=by
  unfold refs
  rw [ea,eb]
  by_cases e:h = r
  · rw [if_neg (by omega),if_neg (by omega)]; simp
  rw [if_neg e]
  by_cases e1:a = h
  · rw [if_pos e1,if_neg (by omega)]; omega
  rw [if_neg e1]; split <;> omega
 have hh:=T.heldR h
 rw [held_some hx] at hh
 simp only [List.count_nil] at hc
 split at hr <;> split at hh <;> omega
theorem TwoS.cnt (T:TwoS σ r) {R:List Int} {k:Wk} (H:Wanting σ R k.todo.length k) (hR:r ∈ R) {h:Int} {x:Nd × Nat} (hx:σ.get? h = some x):k.cnt h + (if h = r then 1 else 0) = R.count h + 1:=by
 have h1:=H.count T.db.good (fun p hp => by rw [(T.sole p hp).1]; exact hR) hx
 rw [T.heldR] at h1
 have h2:=T.count hx
 rw [count_get hx] at h2
 by_cases e:h = r
 · rw [if_pos e] at h1 ⊢; omega
 rw [if_neg e] at h1 ⊢; omega
theorem filterMap_one {α β:Type} {g:α → Option β} {m:α} {y:β}:∀ {l:List α},l.Nodup → m ∈ l → g m = some y → (∀ x ∈ l,x ≠ m → g x = none) → l.filterMap g = [y]
 | a :: l,hn,hm,hy,h => by
  obtain ⟨h1,h2⟩:=List.nodup_cons.1 hn
  rcases List.mem_cons.1 hm with rfl | hm
  · rw [List.filterMap_cons_some hy,List.filterMap_eq_nil_iff.2 (fun x hx => h x (List.mem_cons_of_mem _ hx) (fun e => h1 (e ▸ hx)))]
  rw [List.filterMap_cons_none (h a (List.mem_cons_self ..) (fun e => h1 (e ▸ hm)))]
  exact filterMap_one h2 hm hy (fun x hx => h x (List.mem_cons_of_mem _ hx))
theorem filter_one {α:Type} {p:α → Bool} {m:α}:∀ {l:List α},l.Nodup → m ∈ l → p m = true → (∀ x ∈ l,x ≠ m → p x = false) → l.filter p = [m]
 | a :: l,hn,hm,hy,h => by
  obtain ⟨h1,h2⟩:=List.nodup_cons.1 hn
  rcases List.mem_cons.1 hm with rfl | hm
  · rw [List.filter_cons_of_pos hy,List.filter_eq_nil_iff.2 (fun x hx => by rw [h x (List.mem_cons_of_mem _ hx) (fun e => h1 (e ▸ hx))]; simp)]
  rw [List.filter_cons_of_neg (by rw [h a (List.mem_cons_self ..) (fun e => h1 (e ▸ hm))]; simp)]
  exact filter_one h2 hm hy (fun x hx => h x (List.mem_cons_of_mem _ hx))
theorem TwoS.there (T:TwoS σ r):∃ x,σ.get? r = some x:=by
 obtain ⟨xr,hxr,_⟩:=held_there (σ:=σ) (h:=r) (by rw [T.held]; omega)
 exact ⟨xr,hxr⟩
theorem TwoS.len (T:TwoS σ r) {R:List Int} {k:Wk} (H:Wanting σ R k.todo.length k) (hR:r ∈ R):k.todo.length = 3:=by
 have h1:=H.ed.len
 have h2:=nodup_length_int ((handles σ).map fun n:Nat => (n:Int)) k.todo (List.Pairwise.map _ (fun a b h e => h (Int.ofNat_inj.1 e)) handles_nodup) (fun y hy => by
  obtain ⟨m,hm,e⟩:=List.mem_map.1 hy
  obtain ⟨z,hz⟩:=(mem_handles y).2 ⟨m,hm,e.symm⟩
  exact H.full T.db.good (fun p hp => by rw [(T.sole p hp).1]; exact hR) hz)
 rw [List.length_map] at h2
 have h3:=handles_length (σ:=σ)
 rw [T.live] at h3
 omega
theorem TwoS.one (T:TwoS σ r) {R:List Int} {k:Wk} (H:Wanting σ R k.todo.length k) (hR:∀ h,h ≠ 0 → R.count h = if h = r then 1 else 0):finds σ k.cnt = [] ∧ lostL k.cnt (handles σ) = [] ∧ k.todo.length = 3:=by
 have hr:r ∈ R:=List.count_pos_iff.1 (by rw [hR r T.ne,if_pos rfl]; omega)
 have hall:∀ m ∈ handles σ,k.cnt (m:Int) = 1 ∧ σ.count (m:Int) = 1:=fun m hm => by
  obtain ⟨x,hx⟩:=(mem_handles (m:Int)).2 ⟨m,hm,rfl⟩
  have h1:=T.cnt H hr hx
  rw [hR _ (get_ne hx)] at h1
  exact ⟨by omega,T.count hx⟩
 refine ⟨?_,?_,T.len H hr⟩
 · unfold finds findsL
   refine List.filterMap_eq_nil_iff.2 fun m hm => ?_
   obtain ⟨h1,h2⟩:=hall m hm
   rw [if_pos (by rw [h1,h2])]
 unfold lostL
 rw [List.filter_eq_nil_iff.2 fun m hm => by rw [(hall m hm).1]; simp]
 rfl
theorem TwoS.two (T:TwoS σ r) {k:Wk} (H:Wanting σ [r,r] k.todo.length k):finds σ k.cnt = [(r,2,1)] ∧ (k.todo.filter fun x => decide (1 < k.cnt x)).length = 1:=by
 have hc:∀ h x,σ.get? h = some x → k.cnt h = if h = r then 2 else 1:=fun h x hx => by
  have h1:=T.cnt H (List.mem_cons_self ..) hx
  have h2:List.count h [r,r] = if h = r then 2 else 0:=by
   by_cases e:h = r
   · subst e; simp
   rw [if_neg e]; simp [Ne.symm e]
  rw [h2] at h1
  by_cases e:h = r
  · rw [if_pos e] at h1 ⊢; rw [if_pos e] at h1; omega
  rw [if_neg e] at h1 ⊢; rw [if_neg e] at h1; omega
 obtain ⟨xr,hxr⟩:=T.there
 obtain ⟨m,hm,e⟩:=(mem_handles r).1 ⟨xr,hxr⟩
 refine ⟨?_,?_⟩
 · unfold finds findsL
   refine filterMap_one (m:=m) handles_nodup hm ?_ fun y hy hne => ?_
   · rw [← e,hc r xr hxr,T.count hxr,if_pos rfl]; rfl
   obtain ⟨z,hz⟩:=(mem_handles (y:Int)).2 ⟨y,hy,rfl⟩
   have hyr:¬ ((y:Int) = r):=by rw [e]; exact fun h => hne (Int.ofNat_inj.1 h)
   have h1:=hc _ z hz
   rw [if_neg hyr] at h1
   rw [h1,T.count hz,if_pos rfl]
 rw [filter_one (m:=r) H.nodup (H.full T.db.good (fun p hp => by rw [(T.sole p hp).1]; exact List.mem_cons_self ..) hxr) (by rw [hc r xr hxr,if_pos rfl]; rfl) (fun y hy hne => by
  obtain ⟨z,hz⟩:=has_get (H.there y hy)
  rw [hc y z hz,if_neg hne]; rfl)]
 rfl
theorem Fro.none {h:Int} (hf:Fro σ [] h):False:=by
 induction hf with
 | root h1 _ => cases h1
 | left _ _ ih => exact ih
 | right _ _ ih => exact ih
theorem TwoS.nil (T:TwoS σ r) {k:Wk} (H:Wanting σ [] k.todo.length k):∃ h1 l,finds σ k.cnt = (h1,0,1) :: l ∧ l.length = 2:=by
 have ht:k.todo = []:=List.eq_nil_iff_forall_not_mem.2 fun y hy => (H.fro y hy).none
 have hc:∀ h,k.cnt h = 0:=fun h => by
  have:=H.mem h
  rw [ht] at this
  simp at this
  omega
 have h3:(handles σ).length = 3:=by rw [handles_length,T.live]
 have hf:finds σ k.cnt = (handles σ).map fun m:Nat => ((m:Int),(0:Int),(1:Int)):=by
  unfold finds findsL
  have:∀ l:List Nat,(∀ m ∈ l,m ∈ handles σ) → (l.filterMap fun h:Nat => if ((σ.count (h:Int):Nat):Int) = (k.cnt (h:Int):Nat) then none else some ((h:Int),((k.cnt (h:Int):Nat):Int),((σ.count (h:Int):Nat):Int))) = l.map fun m:Nat => ((m:Int),(0:Int),(1:Int)):=by
   intro l
   induction l with
   | nil => intro _; rfl
   | cons a l ih =>
    intro hl
    obtain ⟨z,hz⟩:=(mem_handles (a:Int)).2 ⟨a,hl a (List.mem_cons_self ..),rfl⟩
    rw [List.filterMap_cons_some (b:=((a:Int),(0:Int),(1:Int))) (by rw [hc,T.count hz]; rfl),ih (fun m hm => hl m (List.mem_cons_of_mem _ hm))]
    rfl
  exact this _ (fun _ h => h)
 rw [hf]
 match handles σ,h3 with
 | [a,b,c],_ => exact ⟨_,_,rfl,rfl⟩
end
end Go.Proofs.YtmeglndnkdgkoaaGreat.Store
namespace Go.Proofs.YtmeglndnkdgkoaaGreat.Law12
open Go.RowKit Go.Proofs.YtmeglndnkdgkoaaGreat.ShaW Go.Proofs.YtmeglndnkdgkoaaGreat.Path Go.Proofs.YtmeglndnkdgkoaaGreat.Store Go.Proofs.YtmeglndnkdgkoaaGreat.Law9
theorem two_ok (w:World):Calls Tryz.prog 58 #[] w fun e w' => ∃ s σ r,e = .returned (.tuple #[.pointer (some ⟨s,0,none⟩),.int .i64 r]) ∧ TwoS σ r ∧ Ow w w' s σ (fun _ => False):=by
 obtain ⟨K0,hK0⟩:∃ K,K = brow (keyL 0):=⟨_,rfl⟩
 obtain ⟨K1,hK1⟩:∃ K,K = brow (keyL 128):=⟨_,rfl⟩
 have hb0:=key_built
 have hb1:=key_built1
 rw [← hK0] at hb0
 rw [← hK1] at hb1
 have HB0:=Lib.hid hb0
 have HB1:=Lib.hid hb1
 have HK0:=Lib.hid hK0
 have HK1:=Lib.hid hK1
 clear hb0 hb1 hK0 hK1
 go_enter Tryz.func58,Tryz.ntmps58
 go_wp2_with fail
 refine (New_own 600 w (by decide) (by decide)).mono ?_; rintro e w1 ⟨s,rfl,h1⟩
 have D0:=Db.new 600 (by decide) (by decide)
 have hp:=Put_db (h1.ow.less (G':=fun _ => False) (fun _ => fEq)) D0 (key:=keyL 0) (bs := []) rfl (Bytes.nil _) (fun h => absurd rfl h) (by simp) (by decide) (by decide)
 rw [← HK0.out] at hp
 have HP:=Lib.hid hp
 clear hp h1
 go_wp2_with (first
  | fail
  | ((with_reducible show zOq (.build 31 #[])); refine wpList_build_none rfl 31 rfl K0 HB0.out ?_)
  | ((with_reducible show zOq (.build 31 _)); refine wpList_build_one rfl 31 0 _ rfl (.int .u8 128) rfl K1 HB1.out ?_))
 refine HP.out.mono ?_; rintro e w2 ⟨r1,σ1,rfl,o2,b2,W2,D2,_⟩
 have S2:=W2.sole (Sole.new 600 0)
 have hu1:live σ1 = 1:=by rw [D2.live S2,tree1.1]
 have hl1:live σ1 + 258 ≤ σ1.room:=by rw [hu1,W2.room]; decide
 have ht1:total σ1 + 600 < 1073741824:=by have:=W2.total; rw [show total (⟨600,[],[]⟩:SlabSt Nd) = 0 from rfl] at this; omega
 have hsp1:σ1.slots.length ≤ 258:=by have:=W2.span; simpa using this
 have hp:=Put_db o2 D2 (key:=keyL 128) (bs := []) rfl (Bytes.nil _) (fun h => absurd rfl h) (by simp) hl1 ht1
 rw [← HK1.out] at hp
 have HP2:=Lib.hid hp
 have HS2:=(hIq S2 hsp1)
 clear hp o2 b2 W2 HP S2 hl1 ht1 hu1 D2 D0 hsp1
 go_wp2_with (first
  | fail
  | ((with_reducible show zOq (.build 31 #[])); refine wpList_build_none rfl 31 rfl K0 HB0.out ?_)
  | ((with_reducible show zOq (.build 31 _)); refine wpList_build_one rfl 31 0 _ rfl (.int .u8 128) rfl K1 HB1.out ?_))
 refine HP2.out.mono ?_; rintro e w5 ⟨r2,σ2,rfl,o5,b5,W5,D5,_⟩
 have S5:=W5.sole HS2.out.1
 have hT:TwoS σ2 r2:=⟨D5,S5,by rw [D5.live S5]; exact tree2.1,by have:=W5.span; have:=HS2.out.2; omega,W5.ne⟩
 have HT:=(hIq hT o5)
 clear o5 b5 W5 D5 S5 hT HP2
 go_wp2
 go_ret2
 exact ⟨s,σ2,r2,rfl,HT.out.1,HT.out.2⟩
structure At2 (w0 w:World) (s:Nat) (r:Int):Prop where
 ex:∃ σ F,At w s F σ ∧ TwoS σ r
section
variable {w0 w w1 : World} {s : Nat} {r : Int}
theorem At2.adds (h:At2 w0 w s r) (a:Adds w w1):At2 w0 w1 s r:=by
 obtain ⟨σ,F,h1,h2⟩:=h.ex
 exact ⟨σ,F,h1.adds a,h2⟩
theorem chk_roots {σ:SlabSt Nd} (T:TwoS σ r) {R:List Int} (hl:R.length ≤ 64) (hR:∀ x ∈ R,x = r ∨ x = 0):chk σ R = 0:=by
 unfold chk
 rw [if_neg (by omega)]
 refine rerr_zero.2 fun x hx => ?_
 rcases hR x hx with rfl | rfl
 · exact rootErr_hand T.db.hand
 rfl
theorem ints_new (w:World) (l:List Int):IntsAt (w.alloc (.cells (intL l).toArray 3)) (some ⟨w.heap.size,0,none⟩) l:=fun i x hx => by
 refine ⟨_,_,rfl,?_⟩
 rw [Nat.zero_add]
 refine row_cell (heap_alloc_new w _) ?_
 simp [intL,hx]
theorem At2.chk1 (h:At2 w0 w s r) {ao:Option Addr} {R:List Int} (cap:Nat) (hR:IntsAt w ao R) (hl:R.length ≤ 64) (h2:∀ x ∈ R,x = r ∨ x = 0) (hc:R.count r = 1) :
 Calls Tryz.prog 42 #[.pointer (some ⟨s,0,none⟩),.slice ao R.length cap] w fun e w' => ∃ qo qc,e = .returned (.tuple #[.slice qo 0 qc,.int .i64 0]) ∧ Adds w w':=by
 obtain ⟨σ,F,hF,T⟩:=h.ex
 refine (Check_good hF T.db.good cap hR (chk_roots T hl h2)).mono ?_
 rintro e w' ⟨v,k,rfl,hk,hown,a⟩
 have hf:=(T.one hk (fun x hx => by
  by_cases e:x = r
  · rw [if_pos e,e,hc]
  rw [if_neg e]
  refine List.count_eq_zero.2 fun hm => ?_
  rcases h2 x hm with h | h
  · exact e h
  exact hx h)).1
 rw [hf] at hown
 obtain ⟨qo,qc,rfl⟩:=owns_form hown
 exact ⟨qo,qc,rfl,a⟩
theorem At2.chk0 (h:At2 w0 w s r) :
 Calls Tryz.prog 42 #[.pointer (some ⟨s,0,none⟩),.slice none 0 0] w fun e w' => ∃ g qc cur,e = .returned (.tuple #[.slice (some ⟨g,0,none⟩) 3 qc,.int .i64 0]) ∧ w'.heap[g]? = some (.cells cur 103 (0,0)) ∧ cur[1]? = some (.int .i64 0) ∧ cur[2]? = some (.int .i64 1) ∧ 3 ≤ qc ∧ w.heap.size ≤ g ∧ Adds w w':=by
 obtain ⟨σ,F,hF,T⟩:=h.ex
 refine (Check_good (R := []) hF T.db.good 0 (IntsAt.nil w none) (chk_roots T (by simp) (fun x hx => by cases hx))).mono ?_
 rintro e w' ⟨v,k,rfl,hk,hown,a⟩
 obtain ⟨h1,l,hf,hl⟩:=T.nil hk
 rw [hf] at hown
 rw [show ((h1,(0:Int),(1:Int)) :: l).length = 3 by simp [hl]] at hown
 obtain ⟨g,cap,cur,rfl,hg,q1,q2,q3,q4⟩:=owns_block hown (by omega)
 refine ⟨g,cap,cur,rfl,hg,?_,?_,q1,(hown.lt g rfl).1,a⟩
 · exact take_get q4 (by simp [fdL])
 exact take_get q4 (by simp [fdL])
theorem At2.chk2 (h:At2 w0 w s r) {ao:Option Addr} (cap:Nat) (hR:IntsAt w ao [r,r]) :
 Calls Tryz.prog 42 #[.pointer (some ⟨s,0,none⟩),.slice ao 2 cap] w fun e w' => ∃ g qc cur,e = .returned (.tuple #[.slice (some ⟨g,0,none⟩) 1 qc,.int .i64 0]) ∧ w'.heap[g]? = some (.cells cur 103 (0,0)) ∧ 3 ≤ cur.size ∧ cur.extract 0 (0 + 3) = #[.int .i64 r,.int .i64 2,.int .i64 1] ∧ 1 ≤ qc ∧ w.heap.size ≤ g ∧ Adds w w':=by
 obtain ⟨σ,F,hF,T⟩:=h.ex
 refine (Check_good (R := [r,r]) hF T.db.good cap hR (chk_roots T (by simp) (fun x hx => by simp at hx; exact .inl hx))).mono ?_
 rintro e w' ⟨v,k,rfl,hk,hown,a⟩
 rw [(T.two hk).1] at hown
 obtain ⟨g,cap',cur,rfl,hg,q1,q2,q3,q4⟩:=owns_block hown (by simp)
 have hc:3 ≤ cur.size:=by rw [q3]; simp only [List.length_singleton] at q1; omega
 refine ⟨g,cap',cur,rfl,hg,hc,?_,q1,(hown.lt g rfl).1,a⟩
 apply Array.ext'
 simp only [Array.toList_extract,List.extract,List.drop_zero]
 have:cur.toList.take (1 * 3) = [.int .i64 r,.int .i64 2,.int .i64 1]:=q4
 simpa using this
end
theorem sizeFd:(Tryz.prog.info? 103).map (·.size) = some 3:=by kernel_rfl
theorem awake_ok (w:World):Calls Tryz.prog 49 #[] w fun e w' => e = .returned (.bool true) ∧ Adds w w':=by
 go_enter Tryz.func49,Tryz.ntmps49
 go_wp2_with fail
 refine (two_ok w).mono ?_; rintro e w1 ⟨s,σ,r,rfl,hT,hO⟩
 obtain ⟨F,hF⟩:=hO.at
 have h1:At2 w w1 s r:=⟨σ,F,hF,hT⟩
 have H1:=Lib.hid h1
 have A1:=Lib.hid hO.world
 have hc1:=(h1.adds ((Ch.refl _ w1).alloc (.cells (intL [r]).toArray 3))).chk1 1 (ints_new w1 [r]) (by simp) (fun x hx => by simp at hx; exact .inl hx) (by simp)
 have HC1:=Lib.hid hc1
 clear h1 hF hT hO hc1
 go_wp2_with fail
 refine HC1.out.mono ?_; rintro e w2 ⟨qo,qc,rfl,a2⟩
 have A2:=Lib.hid (((Ch.refl (fun _ => False) w1).alloc (.cells (intL [r]).toArray 3)).trans a2 (fun _ => fEq))
 have HC2:=Lib.hid (H1.out.adds A2.out).chk0
 clear a2 HC1
 go_wp2_with fail
 refine HC2.out.mono ?_; rintro e w3 ⟨g3,qc3,cur3,rfl,r3,c31,c32,hq3,hg3,a3⟩
 have A3:=Lib.hid (A2.out.trans a3 (fun _ => fEq))
 have R3:=(hIq r3 (aIq c31 (aIq c32 hq3)))
 have hc3:=((H1.out.adds A3.out).adds ((Ch.refl _ w3).alloc (.cells (intL [r,r]).toArray 3))).chk2 2 (ints_new w3 [r,r])
 have HC3:=Lib.hid hc3
 clear r3 c31 c32 hq3 a3 hc3 HC2
 go_wp2_with fail
 refine HC3.out.mono ?_; rintro e w4 ⟨g4,qc4,cur4,rfl,r4,cs4,ce4,hq4,hg4,a4⟩
 have a34:Adds w3 w4:=((Ch.refl (fun _ => False) w3).alloc (.cells (intL [r,r]).toArray 3)).trans a4 (fun _ => fEq)
 have A4:=Lib.hid (A3.out.trans a34 (fun _ => fEq))
 have r34:=a34.row R3.out.1 id
 have c31:=row_cell r34 R3.out.2.1
 have c32:=row_cell r34 R3.out.2.2.1
 have hq3:=R3.out.2.2.2
 have R4:=(hIq r4 (aIq cs4 ce4))
 clear a4 a34 HC3 r34 r4 cs4 ce4
 go_wp2_with (first
  | fail
  | ((with_reducible show zOq (.load 103 _)); refine wpList_gload_part (by first | rfl | (simp [Region.wanted]; done)) 103 _ rfl g4 0 rfl R4.out.1 Tryz.underlying103 rfl sizeFd (by have:=R4.out.2.1; omega) #[.int .i64 r,.int .i64 2,.int .i64 1] R4.out.2.2 ?_))
 go_ret
 exact ⟨rfl,A1.out.trans A4.out (fun _ => fEq)⟩
end Go.Proofs.YtmeglndnkdgkoaaGreat.Law12
namespace Go.Proofs.YtmeglndnkdgkoaaGreat.Store
open Go.RowKit Go.Proofs.YtmeglndnkdgkoaaGreat.ShaW Go.Proofs.YtmeglndnkdgkoaaGreat.Path Go.Proofs.YtmeglndnkdgkoaaGreat.Law9
section
variable {w : World}
def RowI (w:World) (ao:Option Addr) (n cap:Nat) (l:List Int):Prop:=w.ownsRow 0 3 1 (.slice ao n cap) n (intL l) ∧ l.length = n
theorem RowI.adds {w':World} {ao:Option Addr} {n cap:Nat} {l:List Int} (h:RowI w ao n cap l) (a:Adds w w'):RowI w' ao n cap l:=⟨a.owns h.1 (fun _ _ h => h),h.2⟩
theorem RowI.cell {ao:Option Addr} {n cap:Nat} {l:List Int} (h:RowI w ao n cap l) {k:Nat} (hk:k < n):∃ g x,ao = some ⟨g,0,none⟩ ∧ l[k]? = some x ∧ w.cell? ⟨g,k,none⟩ = some (.int .i64 x):=by
 obtain ⟨x,hx⟩:∃ x,l[k]? = some x:=⟨_,List.getElem?_eq_getElem (by have:=h.2; omega)⟩
 obtain ⟨g,cap',cur,e,hg,h1,h2,h3,h4⟩:=owns_block h.1 (by omega)
 injection e with e1 _ _
 refine ⟨g,x,e1,hx,row_cell hg (take_get h4 ?_)⟩
 simp [intL,hx]
end
end Go.Proofs.YtmeglndnkdgkoaaGreat.Store
namespace Go.Proofs.YtmeglndnkdgkoaaGreat
open Go.RowKit
def SeqY {α:Type} (F:Fence) (n:Nat) (P:Program) (g:Nat) (lb:Array Value) (encs:α → Array Value) (Y:List α → α → World → Prop) (Kp:World → World → Prop) (S Sp:List α → Prop) (N:Nat) (w:World):Prop :=
 ∀ (l:Nat) (J Jx:List α → World → Prop) (W:World),Below w.heap.size w W → AbidesFrom W.heap.size J → AbidesFrom W.heap.size Jx →
  (∀ pre x W1,J pre W1 → Y pre x W1 → pre.length < N → YieldAt F (n - 1) P l (encs x) W1 fun e W' =>
   (e = .returned (.bool true) ∧ J (pre ++ [x]) W' ∧ Kp W1 W') ∨ (e = .returned (.bool false) ∧ Jx (pre ++ [x]) W')) →
  J [] W → CallsIn F n P g (#[.func (.yield l) #[] #[]] ++ lb) W fun e W' => (∃ v,e = .returned v) ∧ ((∃ xs,S xs ∧ J xs W') ∨ (∃ pre,Sp pre ∧ Jx pre W'))
variable {F : Fence} {n : Nat} {P : Program}
theorem wpIn_rangeY {α:Type} {g:Operand} {ps:Array Tmp} {assign body:Code} {Q:Exit → Act → World → Prop} {a:Act} {w:World}
 (hro:F.round = none) (h1:1 ≤ n) {gf:Nat} {lb:Array Value} (hg:a.eval g = .func (.func gf) #[] lb) (hFg:F.fn gf) (eg:∀ args w,(callFunc gf args).run P w = .ok (.enter gf args) w)
 {encs:α → Array Value} {Y:List α → α → World → Prop} {Kp:World → World → Prop} {S Sp:List α → Prop} {N:Nat} {w0:World} (hseq:SeqY F (n - 1) P gf lb encs Y Kp S Sp N w0)
 (hKt:∀ {A B C:World},Kp A B → Kp B C → Kp A C) (hKb:∀ (W:World) (l:Nat) (o o':Obj),w.heap.size ≤ l → W.heap[l]? = some o → o.isCells = false → o.isWalk = false → Kp W (W.putObj l o')) (hb0:Below w0.heap.size w0 w) (hps:∀ x,(encs x).size = ps.size)
 (I:List α → World → Prop) (Ix:Code → List α → World → Prop) (hI:OwnFrom w.heap.size I) (hIx:∀ c,OwnFrom w.heap.size (Ix c)) (h0:I [] w)
 (B:List α → α → Act → World → Prop) (hB:∀ pre x a W l o o',B pre x a W → w.heap.size ≤ l → W.heap[l]? = some o → o.isCells = false → B pre x a (W.putObj l o'))
 (hassign:∀ (l:Nat) (pre:List α) (x:α) (W:World),I pre W → Y pre x W → pre.length < N →
  assign.wpIn (F.inRound l) (n - 1 - 1) P (Exit.then (fun a W' => KeepsOthers W W' ∧ Kp W W' ∧ B pre x a W') (fun _ _ _ => False)) { tmps:=(ps.zip (encs x)).foldl (fun t (p,v) => t.setIfInBounds p v) a.tmps,defers := [] } W)
 (hbody:∀ (l:Nat) (pre:List α) (x:α) (a:Act) (W:World),B pre x a W → pre.length < N → body.wpIn (F.inRound l) (n - 1 - 1) P (ownPostK Kp I Ix (pre ++ [x]) W) a W)
 (hdone:∀ (D:Nat) (xs:List α) (W:World),w.heap.size ≤ D → S xs → I xs W → W.heap[D]? = some (.deferred (some [])) → Q .normal { a with defers := { target:=.collected D,args := #[] } :: a.defers } W)
 (hstop:∀ (D:Nat) (c:Code) (pre:List α) (W:World),w.heap.size ≤ D → Sp pre → Ix c pre W → W.heap[D]? = some (.deferred (some [])) → c.wpIn F n P Q { a with defers := { target:=.collected D,args := #[] } :: a.defers } W) :
 (Code.rangeFunc g ps assign body).wpIn F n P Q a w:=by
 refine wpIn_rangeFunc fun fn hfn => ?_
 rw [hro]
 obtain ⟨D,hD⟩:∃ D,D = w.heap.size:=⟨_,rfl⟩
 obtain ⟨lp,hlp⟩:∃ lp:LoopState → Option Code → Loop,lp = fun st pe => { state:=st,pending:=pe,fn,tmps:=a.tmps,params:=ps,assign,body,defers:=w.heap.size }:=⟨_,rfl⟩
 obtain ⟨W1,hW1⟩:∃ W1,(w.alloc (.deferred (some []))).alloc (.loop (lp .ready none)) = W1:=⟨_,rfl⟩
 have atL:W1.heap[D + 1]? = some (.loop (lp .ready none)):=by
  rw [← hW1,hD]
  have:=World.alloc_heap_new (w.alloc (.deferred (some []))) (.loop (lp .ready none))
  rwa [World.size_alloc] at this
 have atD:W1.heap[D]? = some (.deferred (some [])):=by
  rw [← hW1,hD]
  exact (Below.heap_alloc _ _ _ (by simp)).trans (World.alloc_heap_new w _)
 have hI1:I [] W1:=by rw [← hW1]; exact hI.alloc _ (hI.alloc _ h0)
 have hb1:Below w0.heap.size w0 W1:=by
  rw [← hW1]
  exact hb0.trans ((((Below.refl _ w).alloc (Nat.le_refl _) _).alloc (by simp) _).mono hb0.size)
 have hs1:W1.heap.size = D + 2:=by rw [← hW1,hD]; simp
 have turned:∀ {A:World} {row:Option Nat},(∀ r,row = some r → W1.heap.size ≤ r ∧ ∃ o:Obj,A.heap[r]? = some o ∧ o.isWalk = true) → ∀ r,row = some r → w.heap.size ≤ r ∧ ∃ o:Obj,A.heap[r]? = some o ∧ o.isCells = false :=
  fun hr r e => by obtain ⟨hB,o,ho,hw⟩:=hr r e; exact ⟨by omega,o,ho,Obj.not_cells_of_walk hw⟩
 refine ⟨w.heap.size + 1,[{ target:=.collected w.heap.size,args := #[] }],W1, { target:=.fn (.func gf) lb,args := #[.func (.yield (w.heap.size + 1)) #[] #[]] },W1,gf,
  #[.func (.yield (w.heap.size + 1)) #[] #[]] ++ lb,W1,?_,?_,?_,?_,fun _ => h1,?_⟩
 · rw [← hW1,hlp]; exact run_enterLoop_outer _ _ _ _ _
 · simp only [resolve,hg]
   simp [go_sem]
 · intro f' hf'
   simp [Target.leads] at hf'
   subst hf'
   exact hFg
 · simp [invoke,go_sem,eg]
 rw [← hD] at hI hIx hB hKb hdone hstop ⊢
 let J:List α → World → Prop:=fun pre W => I pre W ∧ W.heap[D + 1]? = some (.loop (lp .ready none)) ∧ W.heap[D]? = some (.deferred (some []))
 let Jx:List α → World → Prop:=fun pre W => ∃ c,Ix c pre W ∧ W.heap[D + 1]? = some (.loop (lp .done (some c))) ∧ W.heap[D]? = some (.deferred (some []))
 refine (hseq (D + 1) J Jx W1 hb1 ?_ ?_ ?_ ⟨hI1,atL,atD⟩).mono ?_
 · intro s A B row hs hg' hr
   have ht:=turned (A:=A) hr
   rw [← hD] at ht
   exact ⟨hI s A B row hs.1 hg' ht,(grownBy_keeps hg' (fun r e => (hr r e).2) hs.2.1 rfl).trans hs.2.1,(grownBy_keeps hg' (fun r e => (hr r e).2) hs.2.2 rfl).trans hs.2.2⟩
 · intro s A B row hs hg' hr
   have ht:=turned (A:=A) hr
   rw [← hD] at ht
   obtain ⟨c,hc,hl,hk⟩:=hs
   exact ⟨c,hIx c s A B row hc hg' ht,(grownBy_keeps hg' (fun r e => (hr r e).2) hl rfl).trans hl,(grownBy_keeps hg' (fun r e => (hr r e).2) hk rfl).trans hk⟩
 · rintro pre x W ⟨hi,hl,hk⟩ hyx hlen
   have hlt:D + 1 < W.heap.size:=(Array.getElem?_eq_some_iff.1 hl).1
   have hy:=run_yield (P:=P) (args:=encs x) hl (by rw [hlp]; exact hps x)
   rw [hlp] at hy
   refine ⟨fn,_,assign,body,hy,roundIn_of_wpIn hfn (wpIn_mono (hassign (D + 1) pre x W hi hyx hlen) ?_)⟩
   rintro e0 a0 W0 hp0
   obtain rfl:e0 = .normal:=by cases e0 <;> first | rfl | exact hp0.elim
   obtain ⟨hko,hkp,hb⟩:=hp0
   have hl0:=hko.same _ _ hl rfl
   have hlt0:D + 1 < W0.heap.size:=(Array.getElem?_eq_some_iff.1 hl0).1
   have hk0:=hko.same _ _ hk rfl
   refine ⟨_,run_beginRound hl0 (by rw [hlp]),?_⟩
   obtain ⟨W2,hW2⟩:∃ W2,W2 = W0.putObj (D + 1) (.loop { lp .ready none with state:=.busy }):=⟨_,rfl⟩
   rw [← hW2]
   have hl2:W2.heap[D + 1]? = some (.loop { lp .ready none with state:=.busy }):=by rw [hW2]; exact World.putObj_heap_same hlt0
   have hk2:W2.heap[D]? = some (.deferred (some [])):=by rw [hW2]; exact (World.putObj_heap_other (by omega)).trans hk0
   have hw2:Kp W W2:=by rw [hW2]; exact hKt hkp (hKb _ _ _ _ (by omega) hl0 rfl rfl)
   have hb2:B pre x a0 W2:=by rw [hW2]; exact hB pre x a0 W0 (D + 1) _ _ hb (by omega) hl0 rfl
   have fin:∀ (jump:Option Code) (W3:World),KeepsOthers W2 W3 →
    (Instr.endRound (D + 1) jump).run P W3 = .ok (.bool jump.isNone) (W3.putObj (D + 1) (.loop (lp (if jump.isNone then .ready else .done) jump))) ∧
    W3.heap[D + 1]? = some (.loop { lp .ready none with state:=.busy }) ∧
    (W3.putObj (D + 1) (.loop (lp (if jump.isNone then .ready else .done) jump))).heap[D + 1]? = some (.loop (lp (if jump.isNone then .ready else .done) jump)) ∧
    (W3.putObj (D + 1) (.loop (lp (if jump.isNone then .ready else .done) jump))).heap[D]? = some (.deferred (some [])):=fun jump W3 hk3 => by
    have hl3:=hk3.same _ _ hl2 rfl
    have:=run_endRound (P:=P) jump hl3
    rw [hlp] at this ⊢
    exact ⟨this,by rw [hlp] at hl3; exact hl3,World.putObj_heap_same (Array.getElem?_eq_some_iff.1 hl3).1,(World.putObj_heap_other (by omega)).trans (hk3.same _ _ hk2 rfl)⟩
   refine wpIn_mono (hbody _ pre x a0 W2 hb2 hlen) ?_
   rintro e a3 W3 hp
   cases e with
   | normal =>
    obtain ⟨hk3,hkp3,hi3⟩:=hp
    obtain ⟨hr,hl3,hl4,hk4⟩:=fin none W3 hk3
    exact ⟨_,_,hr,.inl ⟨rfl,⟨hI.putObj _ hi3 (by omega) hl3 rfl,hl4,hk4⟩,hKt (hKt hw2 hkp3) (hKb _ _ _ _ (by omega) hl3 rfl rfl)⟩⟩
   | ret =>
    obtain ⟨hr,hl3,hl4,hk4⟩:=fin (some .ret) W3 hp.1
    exact ⟨_,_,hr,.inr ⟨rfl,.ret,(hIx _).putObj _ hp.2 (by omega) hl3 rfl,hl4,hk4⟩⟩
   | exit id =>
    obtain ⟨hr,hl3,hl4,hk4⟩:=fin (some (.exit id)) W3 hp.1
    exact ⟨_,_,hr,.inr ⟨rfl,.exit id,(hIx _).putObj _ hp.2 (by omega) hl3 rfl,hl4,hk4⟩⟩
   | goto t =>
    obtain ⟨hr,hl3,hl4,hk4⟩:=fin (some (.goto t)) W3 hp.1
    exact ⟨_,_,hr,.inr ⟨rfl,.goto t,(hIx _).putObj _ hp.2 (by omega) hl3 rfl,hl4,hk4⟩⟩
   | panic ch => exact hp.elim
   | outgrown => exact hp.elim
 rintro e W2 ⟨⟨v,rfl⟩,(⟨xs,hS,hi,hl,hk⟩ | ⟨pre,hSp,c,hi,hl,hk⟩)⟩
 · exact ⟨none,_,by have:=run_endLoop (P:=P) hl (by rw [hlp]; simp); rw [hlp] at this; exact this,hdone _ xs _ (Nat.le_refl _) hS (hI.putObj _ hi (by omega) hl rfl) ((World.putObj_heap_other (by omega)).trans hk)⟩
 exact ⟨some c,_,by have:=run_endLoop (P:=P) hl (by rw [hlp]; simp); rw [hlp] at this; exact this,hstop _ c pre _ (Nat.le_refl _) hSp ((hIx c).putObj _ hi (by omega) hl rfl) ((World.putObj_heap_other (by omega)).trans hk)⟩
end Go.Proofs.YtmeglndnkdgkoaaGreat
namespace Go.Proofs.YtmeglndnkdgkoaaGreat.Store
open Go.RowKit Go.Sort Go.Proofs.YtmeglndnkdgkoaaGreat.ShaW Go.Proofs.YtmeglndnkdgkoaaGreat.Path Go.Proofs.YtmeglndnkdgkoaaGreat.Law9
section
variable {F : Fence} {n : Nat} {P : Program} {w : World} {ops : Array Oper} {rest : List Oper} {o : Oper} {a : Act} {Q : Exit → Act → World → Prop}
theorem wpListIn_load_part (hgd:o.guard = none) (ty:TypeId) (x:Operand) (ho:o.op = .load ty x)
 (g off:Nat) (hx:a.eval x = .pointer (some ⟨g,off,none⟩)) {t:TypeId} {cur:Array Value} {fr:Nat × Nat} {m:Nat} {d:TypeDesc} (hg:w.heap[g]? = some (.cells cur t fr)) (hu:P.underlying ty = some d)
 (hd:d.isRow = true) (hi:(P.info? ty).map (·.size) = some m) (hfit:off + m ≤ cur.size) (cs:Array Value) (hv:cur.extract off (off + m) = cs)
 (h:wpListIn F n P ops Q rest (a.put o.dst (.agg cs)) w):wpListIn F n P ops Q (o :: rest) a w :=
 wpListIn_plain hgd fun _ hK => by
  unfold Oper.wpIn
  refine ⟨?_,?_⟩
  · simp [Oper.about,ho]
  rw [Oper.semAt_plain F _ _ (by rw [ho]; intro c hc'; cases hc')]
  unfold execOp
  simp only [ho,hx,Instr.loadAt,Instr.sureAddr,Sem.run_bind,Sem.run_pure,Result.andThen_ok,run_load_part w hg hu hd hi hfit,hv]
  exact hK _ _ h
theorem wpListIn_store_part (hgd:o.guard = none) (ty:TypeId) (x y:Operand) (ho:o.op = .store ty x y)
 (g off:Nat) (cells:Array Value) (hx:a.eval x = .pointer (some ⟨g,off,none⟩)) (hy:a.eval y = .agg cells) {t:TypeId} {cur:Array Value} (hg:w.heap[g]? = some (.cells cur t (0,0)))
 (hi:(P.info? ty).map (·.size) = some cells.size) (hfit:off + cells.size ≤ cur.size) (h1:∀ v ∈ cells.toList,v.oneCell' = true)
 (new:Array Value) (hn:(splice cur.toList off cells.toList).toArray = new) (h:wpListIn F n P ops Q rest (a.put o.dst undef) (w.setRow g new)):wpListIn F n P ops Q (o :: rest) a w :=
 wpListIn_plain hgd fun _ hK => by
  unfold Oper.wpIn
  refine ⟨?_,?_⟩
  · simp [Oper.about,ho]
  rw [Oper.semAt_plain F _ _ (by rw [ho]; intro c hc'; cases hc')]
  unfold execOp
  simp only [ho,hx,hy,Instr.storeAt,Instr.sureAddr,Sem.run_bind,Sem.run_pure,Result.andThen_ok,run_store_part w hg hi hfit h1,hn]
  exact hK _ _ h
theorem wpListIn_alloc_is (hgd:o.guard = none) (ty:TypeId) (ho:o.op = .alloc ty)
 (z:Value) (hz:(P.info? ty).bind (·.zero) = some z) (h:wpListIn F n P ops Q rest (a.put o.dst (.pointer (some ⟨w.heap.size,0,none⟩))) (w.alloc (.cells z.cells ty))):wpListIn F n P ops Q (o :: rest) a w :=
 wpListIn_plain hgd fun _ hK => by
  cases hq:P.info? ty with
  | none => simp [hq] at hz
  | some i =>
   have hz':i.zero = some z:=by simpa [hq] using hz
   unfold Oper.wpIn
   refine ⟨?_,?_⟩
   · simp [Oper.about,ho]
   rw [Oper.semAt_plain F _ _ (by rw [ho]; intro c hc'; cases hc')]
   unfold execOp
   simp [ho,Instr.alloc,zeroValue,typeInfo,hq,hz',newVar,newRow]
   exact hK _ _ h
end
section
variable {F : Fence} {n : Nat} {P : Program} {w w' : World} {o : Oper} {a : Act} {Q : Exit → Act → World → Prop} {K : Act → World → Prop} {y : Operand → Value}
theorem stepIn_run {ops:Array Oper} (hgd:o.guard = none) (hab:∀ f,o.about P w a.eval = some f → F.fn f) (hpl:Oper.semAt F.round a.eval o = execOp a.eval o) {v:Value} (hrun:(execOp a.eval o).run P w = .ok (.value v) w') (h:K (a.put o.dst v) w') :
 if Region.wanted o (yielded ops a.tmps) = true then Oper.wpIn F n P o a w K Q else (∀ f,o.about P w a.eval = some f → F.fn f) ∧ K (a.put o.dst undef) w:=by
 rw [if_pos (by simp [Region.wanted,hgd])]
 unfold Oper.wpIn
 refine ⟨hab,?_⟩
 rw [hpl,hrun]
 exact h
theorem exec_load {ty:TypeId} {x:Operand} (ho:o.op = .load ty x) {p:Addr} (hx:a.eval x = .pointer (some p)) {v:Value} (h:(loadVar ty p).run P w = .ok v w):(execOp a.eval o).run P w = .ok (.value v) w:=by
 unfold execOp
 simp only [ho,hx,Instr.loadAt,Instr.sureAddr,Sem.run_bind,Sem.run_pure,Result.andThen_ok,h]
theorem exec_append {s x:Operand} {t:TypeId} (ho:o.op = .call { callee:=.builtin .append,args := #[s,x],argTypes := #[t,t] }) {v:Value} (h:(Builtin.append_ #[t,t] o.type #[a.eval s,a.eval x]).run P w = .ok v w'):(execOp a.eval o).run P w = .ok (.value v) w':=by
 simp [execOp,ho,resolve,invoke,builtin,h,Result.andThen]
end
theorem Adds.grownBy {w w':World} (h:Adds w w'):w.grownBy w' none:=⟨h.os,h.tape,h.output,h.size,fun k hk _ => h.block k hk id⟩
theorem over_ok (ao:Option Addr) (n c:Nat) (w:World) :
 Calls Tryz.prog 109 #[.slice ao n c] w fun e w' => e = .returned (.func (.func 175) #[] #[.pointer (some ⟨w.heap.size,0,none⟩)]) ∧ w.alloc (.cells #[.slice ao n c] 63) = w':=by
 go_enter Tryz.func109,Tryz.ntmps109
 go_wp2
 go_ret
 exact ⟨rfl,rfl⟩
theorem take_step' {l:List Pr} {i:Nat} {x:Pr} (hx:l[i]? = some x):l.take (i + 1) = l.take i ++ [x]:=by rw [List.take_add_one,hx]; rfl
def Yv (n0:Nat) (out:List Pr) (pre:List Pr) (x:Pr) (W:World):Prop :=
 ∃ y,out[pre.length]? = some y ∧ x.ent = y.ent ∧ x.key.length = 32 ∧ x.val.length ≤ 1024 ∧ BytesRow W n0 x.vv x.val
theorem below_cell' {B:Nat} {w w':World} (h:Below B w w') {p:Addr} {v:Value} (hc:w.cell? p = some v) (hp:p.block < B):w'.cell? p = some v:=(h.cell (p:=p) hp).trans hc
end Go.Proofs.YtmeglndnkdgkoaaGreat.Store

/- Proved contracts and plain laws of the layers below, in one text. -/
import Derived.Test.YtmeglndnkdgkoaaGreatQb33
set_option maxHeartbeats 3200000
set_option maxRecDepth 100000
set_option linter.unusedVariables false
namespace Go.Proofs.YtmeglndnkdgkoaaGreat.Store
open Go Go.RowKit Go.Proofs.YtmeglndnkdgkoaaGreat Go.Proofs.YtmeglndnkdgkoaaGreat.ShaW Go.Proofs.YtmeglndnkdgkoaaGreat.Path
open Go.Maps (Keyed keyOf_int_mk)
section
variable {σ : SlabSt Nd} {R : List Int} {k k1 k2 : Wk} {a b x : Int}
theorem mem_le_sum {α:Type} {f:α → Nat} {l:List α} {y:α} (h:y ∈ l):f y ≤ (l.map f).sum:=by
 induction l with
 | nil => cases h
 | cons z l ih =>
  simp only [List.map_cons,List.sum_cons]
  rcases List.mem_cons.1 h with rfl | h
  · omega
  have:=ih h; omega
theorem Wanting.of_fro (H:Wanting σ R k.todo.length k) (h:Fro σ R x):x ∈ k.todo:=by
 have step:∀ {y z:Int},y ∈ k.todo → z ≠ 0 → 1 ≤ refs (nd σ y) z → z ∈ k.todo:=fun {y z} hy hz hr => by
  refine (H.mem z).2 ?_
  rw [H.cnt' hz]
  have:refs (nd σ y) z ≤ (k.todo.map fun q => refs (nd σ q) z).sum:=mem_le_sum (f:=fun q => refs (nd σ q) z) hy
  omega
 induction h with
 | root h1 h2 =>
  refine (H.mem _).2 ?_
  rw [H.cnt' h2]
  have:=List.count_pos_iff.2 h1
  omega
 | left _ h2 ih => exact step ih h2 (by unfold refs; rw [if_pos rfl]; omega)
 | right _ h2 ih => exact step ih h2 (by unfold refs; rw [if_pos (c:=_ = (nd σ _).right) rfl]; omega)
theorem Wanting.mem_fro (H:Wanting σ R k.todo.length k):x ∈ k.todo ↔ Fro σ R x:=⟨H.fro x,H.of_fro⟩
theorem fro_two:Fro σ [a,b] x ↔ Fro σ [a] x ∨ Fro σ [b] x:=by
 constructor
 · intro h
   induction h with
   | root h1 h2 =>
    rcases List.mem_cons.1 h1 with rfl | h1
    · exact .inl (.root (List.mem_singleton.2 rfl) h2)
    exact .inr (.root h1 h2)
   | left _ h2 ih => exact ih.imp (fun h => .left h h2) (fun h => .left h h2)
   | right _ h2 ih => exact ih.imp (fun h => .right h h2) (fun h => .right h h2)
 rintro (h | h)
 · exact h.mono (fun y hy => by rw [List.mem_singleton.1 hy]; exact List.mem_cons_self ..)
 exact h.mono (fun y hy => List.mem_cons_of_mem _ hy)
theorem todo_two (H1:Wanting σ [a] k1.todo.length k1) (H2:Wanting σ [b] k2.todo.length k2) (H:Wanting σ [a,b] k.todo.length k):x ∈ k.todo ↔ x ∈ k1.todo ∨ x ∈ k2.todo:=by
 rw [H.mem_fro,H1.mem_fro,H2.mem_fro,fro_two]
theorem chk_two:chk σ [a,b] = 0 ↔ chk σ [a] = 0 ∧ chk σ [b] = 0:=by
 have e1:chk σ [a,b] = rerr σ [a,b]:=if_neg (by simp)
 have e2:chk σ [a] = rerr σ [a]:=if_neg (by simp)
 have e3:chk σ [b] = rerr σ [b]:=if_neg (by simp)
 rw [e1,e2,e3,rerr_zero,rerr_zero,rerr_zero]
 simp
def Up (l:List Int):Prop := ∀ i x y,l[i]? = some x → l[i + 1]? = some y → x < y
theorem Up.of_pairwise {l:List Int} (h:l.Pairwise (· < ·)):Up l:=fun i x y hx hy => by
 obtain ⟨hi,ex⟩:=List.getElem?_eq_some_iff.1 hx
 obtain ⟨hj,ey⟩:=List.getElem?_eq_some_iff.1 hy
 have:=List.pairwise_iff_getElem.1 h i (i + 1) hi hj (by omega)
 rw [ex,ey] at this
 exact this
theorem sorted_up {l:List Int} (hn:l.Nodup):Up (l.mergeSort leI):=by
 have hs:(l.mergeSort leI).Pairwise (fun x y => leI x y = true):=List.pairwise_mergeSort (fun a b c h1 h2 => by unfold leI at *; simp at *; omega) (fun a b => by unfold leI; simp; omega) l
 have hn2:(l.mergeSort leI).Nodup:=(List.mergeSort_perm l leI).nodup_iff.2 hn
 refine Up.of_pairwise ((hs.and hn2).imp fun {x y} h => ?_)
 obtain ⟨h1,h2⟩:=h
 unfold leI at h1
 simp at h1
 omega
theorem occ_up (σ:SlabSt Nd):∀ j,(σ.occ j).Pairwise (· < ·) ∧ ∀ n ∈ σ.occ j,n ≤ j
 | 0 => by simp [SlabSt.occ]
 | j + 1 => by
  obtain ⟨h1,h2⟩:=occ_up σ j
  cases hx:σ.get? ((j:Int) + 1) with
  | none => rw [SlabSt.occ_none hx]; exact ⟨h1,fun n hn => by have:=h2 n hn; omega⟩
  | some y =>
   rw [SlabSt.occ_some hx]
   refine ⟨List.pairwise_append.2 ⟨h1,by simp,fun a ha b hb => by rw [List.mem_singleton.1 hb]; have:=h2 a ha; omega⟩,fun n hn => ?_⟩
   rcases List.mem_append.1 hn with hn | hn
   · have:=h2 n hn; omega
   rw [List.mem_singleton.1 hn]; omega
theorem handles_up:(handles σ).Pairwise (· < ·):=(occ_up σ _).1
theorem lost_up (f:Int → Nat):Up (lostL f (handles σ)):=by
 refine Up.of_pairwise ?_
 unfold lostL
 refine List.pairwise_map.2 ((handles_up.filter _).imp fun {a b} h => by omega)
theorem lost_mem {f:Int → Nat} (h:x ∈ lostL f (handles σ)):has σ x = true ∧ f x = 0:=by
 unfold lostL at h
 obtain ⟨n,hn,rfl⟩:=List.mem_map.1 h
 obtain ⟨h1,h2⟩:=List.mem_filter.1 hn
 obtain ⟨y,hy⟩:=(mem_handles (n:Int)).2 ⟨n,h1,rfl⟩
 exact ⟨get_has hy,of_decide_eq_true h2⟩
theorem lost_len (H:Wanting σ R k.todo.length k):k.todo.length + (lostL k.cnt (handles σ)).length = (handles σ).length:=by
 have hp:k.todo.Perm (((handles σ).filter fun h:Nat => !decide (k.cnt (h:Int) = 0)).map fun n:Nat => (n:Int)):=by
  refine (List.perm_ext_iff_of_nodup H.nodup (List.Pairwise.map _ (fun a b h e => h (Int.ofNat_inj.1 e)) (handles_nodup.filter _))).2 fun y => ?_
  constructor
  · intro hy
    obtain ⟨z,hz⟩:=has_get (H.there y hy)
    obtain ⟨m,hm,e⟩:=(mem_handles y).1 ⟨z,hz⟩
    refine List.mem_map.2 ⟨m,List.mem_filter.2 ⟨hm,?_⟩,e.symm⟩
    have:=(H.mem y).1 hy
    rw [← e]
    simp
    omega
  intro hy
  obtain ⟨m,hm,e⟩:=List.mem_map.1 hy
  have h2:=(List.mem_filter.1 hm).2
  rw [e] at h2
  refine (H.mem y).2 ?_
  simp at h2
  omega
 rw [hp.length_eq,List.length_map]
 unfold lostL
 rw [List.length_map]
 have:∀ (l:List Nat) (p:Nat → Bool),(l.filter fun h => !p h).length + (l.filter p).length = l.length:=fun l p => by
  induction l with
  | nil => rfl
  | cons z l ih =>
   cases hz:p z <;> simp [hz] <;> omega
 exact this _ _
structure PartsF (σ:SlabSt Nd) (la lb lc ld:List Int):Prop where
 small:∀ x,x ∈ la ∨ x ∈ lb ∨ x ∈ lc ∨ x ∈ ld → 0 ≤ x ∧ x ≤ 65536
 both:∀ x,x ∈ lc ↔ x ∈ la ∨ x ∈ lb
 nodup:lc.Nodup
 upc:Up lc
 upd:Up ld
 lost:∀ x ∈ ld,has σ x = true ∧ x ∉ lc
 all:lc.length + ld.length = σ.used
 lenA:la.length ≤ 65536
 lenB:lb.length ≤ 65536
theorem handles_le (G:Good σ):(handles σ).length ≤ 65536:=by
 have h2:(handles σ).length ≤ σ.slots.length:=SlabSt.occ_len σ _
 have:=G.sound.wf.len
 have:=G.sound.wf.room
 omega
theorem parts_facts (G:Good σ) {la lb lc ld:List Int} (h1:∃ k,Wanting σ [a] k.todo.length k ∧ la = k.todo.mergeSort leI) (h2:∃ k,Wanting σ [b] k.todo.length k ∧ lb = k.todo.mergeSort leI)
 (h3:∃ k,Wanting σ [a,b] k.todo.length k ∧ lc = k.todo.mergeSort leI) (h4:∃ k,Wanting σ [a,b] k.todo.length k ∧ ld = lostL k.cnt (handles σ)):PartsF σ la lb lc ld:=by
 obtain ⟨k1,W1,rfl⟩:=h1
 obtain ⟨k2,W2,rfl⟩:=h2
 obtain ⟨k3,W3,rfl⟩:=h3
 obtain ⟨k4,W4,rfl⟩:=h4
 have hm:∀ (k:Wk) (x:Int),x ∈ k.todo.mergeSort leI ↔ x ∈ k.todo:=fun k x => (List.mergeSort_perm k.todo leI).mem_iff
 have hs:∀ {R:List Int} {k:Wk} (W:Wanting σ R k.todo.length k) (x:Int),x ∈ k.todo → 0 ≤ x ∧ x ≤ 65536:=fun W x hx => has_small G.sound (.inr (W.there x hx))
 have hl:∀ {R:List Int} {k:Wk} (W:Wanting σ R k.todo.length k),k.todo.length ≤ 65536:=fun W => Nat.le_trans (nodup_len W.nodup W.there) (handles_le G)
 have h34:∀ x,x ∈ k3.todo ↔ x ∈ k4.todo:=fun x => by rw [W3.mem_fro,W4.mem_fro]
 have hp:k3.todo.Perm k4.todo:=(List.perm_ext_iff_of_nodup W3.nodup W4.nodup).2 h34
 refine ⟨fun x hx => ?_,fun x => ?_,(List.mergeSort_perm _ _).nodup_iff.2 W3.nodup,sorted_up W3.nodup,lost_up _,fun x hx => ?_,?_,?_,?_⟩
 · rcases hx with h | h | h | h
   · exact hs W1 x ((hm k1 x).1 h)
   · exact hs W2 x ((hm k2 x).1 h)
   · exact hs W3 x ((hm k3 x).1 h)
   exact has_small G.sound (.inr (lost_mem h).1)
 · rw [hm,hm,hm]; exact todo_two W1 W2 W3
 · obtain ⟨p,q⟩:=lost_mem hx
   refine ⟨p,fun hc => ?_⟩
   have:=(W4.mem x).1 ((h34 x).1 ((hm k3 x).1 hc))
   omega
 · rw [(List.mergeSort_perm k3.todo leI).length_eq,hp.length_eq,lost_len W4,handles_length,live_used G.sound.wf]
 · rw [(List.mergeSort_perm k1.todo leI).length_eq]; exact hl W1
 rw [(List.mergeSort_perm k2.todo leI).length_eq]; exact hl W2
def insI (x:Int) (S:List Int):List Int:=if x ∈ S then S else x :: S
theorem mem_insI {S:List Int} {y:Int}:y ∈ insI x S ↔ y = x ∨ y ∈ S:=by
 unfold insI
 split
 · constructor
   · exact .inr
   rintro (rfl | h) <;> assumption
 exact List.mem_cons
theorem nodup_insI {S:List Int} (h:S.Nodup):(insI x S).Nodup:=by
 unfold insI
 split
 · exact h
 exact List.nodup_cons.2 ⟨by assumption,h⟩
theorem boolElem_inv {H:Type} {P:Program} {e:TypeId} (he:P.underlying e = some .bool) {v:Value} {z:DataW H × List MemPlace} (h:plainElem P e v = some z):∃ x,v = .bool x ∧ z = (.lit (.bool x),[]):=by
 unfold plainElem at h
 rw [he] at h
 cases v <;> simp at h
 exact ⟨_,rfl,h.symm⟩
noncomputable abbrev elemBI:Value → Option (DataW Value × List MemPlace):=plainElem Tryz.prog 4
theorem zeroBoolI (w:World):(zeroValue 4).run Tryz.prog w = .ok (.bool false) w:=by kernel_rfl
structure ISet (w:World) (b n:Nat) (S:List Int):Prop where
 ex:∃ D,w.ownsMap Tryz.prog 3 elemBI b n D ∧ Maps.size D = S.length ∧ ∀ x:Int,D.atKey (ky x) (.lit (.bool false)) = .lit (.bool (decide (x ∈ S))) ∧ Maps.has D (ky x) = decide (x ∈ S)
theorem ISet.keep {F:Nat → Prop} {w w':World} {b n:Nat} {S:List Int} (h:ISet w b n S) (hc:Ch F w w') (hb:¬ F b):ISet w' b n S:=by
 obtain ⟨D,⟨es,clock,hg,r⟩,h2⟩:=h.ex
 exact ⟨D,⟨es,clock,hc.row hg hb,r⟩,h2⟩
theorem ISet.lt {w:World} {b n:Nat} {S:List Int} (h:ISet w b n S):b < w.heap.size:=by
 obtain ⟨D,⟨es,clock,hg,r⟩,h2⟩:=h.ex
 exact row_lt hg
theorem ISet.made (w:World):ISet (w.alloc (.map #[] 0)) w.heap.size 0 []:=⟨_,World.ownsMap_made w _ _ _,rfl,fun x => ⟨by simp [DataW.atKey],rfl⟩⟩
theorem ISet.look {w:World} {b n:Nat} {S:List Int} (h:ISet w b n S) {x:Int} (hx:(Lit.int .i64 x).wf = true) :
 (Instr.lookup 97 (.map (some b)) (.int .i64 x) false).run Tryz.prog w = .ok (.bool (decide (x ∈ S))) w:=by
 obtain ⟨D,h1,_,h2⟩:=h.ex
 obtain ⟨v,ps,hr,hv⟩:=h1.lookup lawI Tryz.underlying97 (zeroBoolI w) (plainElem_bool Tryz.underlying4 false) (keyOf_int_mk Tryz.underlying3 hx)
 rw [show (Lit.int IntKind.i64 x) = ky x from rfl,(h2 x).1] at hv
 rw [hr]
 obtain ⟨y,rfl,hy⟩:=boolElem_inv Tryz.underlying4 hv
 simp only [Prod.mk.injEq,DataW.lit.injEq,Lit.bool.injEq] at hy
 rw [hy.1]
theorem ISet.len {w:World} {b n:Nat} {S:List Int} (h:ISet w b n S) (ty:TypeId):(Builtin.len_ #[97] ty #[.map (some b)]).run Tryz.prog w = .ok (.int .i64 (S.length:Nat)) w:=by
 obtain ⟨D,h1,h2,_⟩:=h.ex
 have:=h1.len Tryz.underlying97 ty
 rw [h2] at this
 exact this
theorem wp_iset {w:World} {b n:Nat} {S:List Int} (h:ISet w b n S) (hn:n < maxLen) {ops:Array Oper} {rest:List Oper} {o:Oper} {a:Act} {Q:Exit → Act → World → Prop}
 (hg:o.guard = none) (m x v:Operand) (hop:o.op = Op.mapUpdate 97 m x v) (hm:a.eval m = .map (some b)) (y:Int) (hx:a.eval x = .int .i64 y) (hy:(Lit.int .i64 y).wf = true) (hv:a.eval v = .bool true)
 (hK:∀ w',ISet w' b (n + 1) (insI y S) → Ch (fun k => k = b) w w' → wpList Tryz.prog ops Q rest (a.put o.dst undef) w'):wpList Tryz.prog ops Q (o :: rest) a w:=by
 obtain ⟨D,h1,hsz,h2⟩:=h.ex
 refine wpList_mapUpdate_own w hg m x v _ hop 3 4 lawI Tryz.underlying97 elemBI b n D hm h1 hn _ _ (ky y) hx hv (keyOf_int_mk Tryz.underlying3 hy) (.lit (.bool true)) [] (plainElem_bool Tryz.underlying4 true) ?_
 intro w' h3 h4
 have hmp:=h1.isMap
 refine hK w' ⟨_,h3,?_,fun z => ?_⟩ ((Ch.refl _ w).grown h4 (fun k hk => .inl (by cases hk; rfl)))
 · rw [Maps.size_put (h1.tidy lawI),(h2 y).2,hsz]
   unfold insI
   by_cases e:y ∈ S
   · rw [if_pos e,if_pos (decide_eq_true e)]
   rw [if_neg e,if_neg (by simpa using e)]; rfl
 by_cases hz:z = y
 · subst hz
   have hm2:z ∈ insI z S:=mem_insI.2 (.inl rfl)
   refine ⟨?_,?_⟩
   · rw [Maps.atKey_put_same hmp (ky_key _),decide_eq_true hm2]
   rw [Maps.has_put_same hmp (ky_key _),decide_eq_true hm2]
 have hm2:(z ∈ insI y S) = (z ∈ S):=by
  apply propext
  rw [mem_insI]
  simp [hz]
 refine ⟨?_,?_⟩
 · rw [Maps.atKey_put_other (ky_ne hz),(h2 z).1]
   simp only [hm2]
 rw [Maps.has_put_other (ky_ne hz),(h2 z).2]
 simp only [hm2]
end
section
variable {w : World} {s : Nat} {F : Nat → Prop} {σ : SlabSt Nd} {R : List Int} {ao : Option Addr}
def AuditRet (w w':World) (σ:SlabSt Nd) (R:List Int) (pick:Wk → List Int) (e:Ending):Prop :=
 ∃ (qo:Option Addr) (qc:Nat) (l:List Int),e = .returned (.tuple #[.slice qo l.length qc,.int .i64 (chk σ R)]) ∧ w'.ownsRow w.heap.size 3 1 (.slice qo l.length qc) l.length (intL l) ∧ Adds w w' ∧
  ((chk σ R ≠ 0 ∧ l = []) ∨ (chk σ R = 0 ∧ ∃ k,Wanting σ R k.todo.length k ∧ l = pick k))
theorem Reached_any (h:At w s F σ) (G:Good σ) (cap:Nat) (hR:IntsAt w ao R) (hl:R.length < 4611686018427387904) :
 Calls Tryz.prog 50 #[.pointer (some ⟨s,0,none⟩),.slice ao R.length cap] w fun e w' => AuditRet w w' σ R (fun k => k.todo.mergeSort leI) e:=by
 unfold AuditRet
 by_cases hc:chk σ R = 0
 · refine (Reached_good h G cap hR hc).mono fun e w' ⟨v,k,he,hW,ho,ha⟩ => ?_
   have hlen:(k.todo.mergeSort leI).length = k.todo.length:=(List.mergeSort_perm _ _).length_eq
   rw [← hlen] at ho
   obtain ⟨qo,qc,rfl⟩:=owns_form ho
   exact ⟨qo,qc,_,by rw [he,hc],ho,ha,.inr ⟨hc,k,hW,rfl⟩⟩
 refine (Reached_bad h cap hR hl hc).mono fun e w' ⟨he,ha⟩ => ⟨none,0,[],he,World.ownsRow_nil _ _ _ _,ha,.inl ⟨hc,rfl⟩⟩
theorem Lost_any (h:At w s F σ) (G:Good σ) (cap:Nat) (hR:IntsAt w ao R) (hl:R.length < 4611686018427387904) :
 Calls Tryz.prog 51 #[.pointer (some ⟨s,0,none⟩),.slice ao R.length cap] w fun e w' => AuditRet w w' σ R (fun k => lostL k.cnt (handles σ)) e:=by
 unfold AuditRet
 by_cases hc:chk σ R = 0
 · refine (Lost_good h G cap hR hc).mono fun e w' ⟨v,k,he,hW,ho,ha⟩ => ?_
   obtain ⟨qo,qc,rfl⟩:=owns_form ho
   exact ⟨qo,qc,_,by rw [he,hc],ho,ha,.inr ⟨hc,k,hW,rfl⟩⟩
 refine (Lost_bad h cap hR hl hc).mono fun e w' ⟨he,ha⟩ => ⟨none,0,[],he,World.ownsRow_nil _ _ _ _,ha,.inl ⟨hc,rfl⟩⟩
end
end Go.Proofs.YtmeglndnkdgkoaaGreat.Store
namespace Go.Proofs.YtmeglndnkdgkoaaGreat.Store
open Go Go.RowKit Go.Proofs.YtmeglndnkdgkoaaGreat Go.Proofs.YtmeglndnkdgkoaaGreat.ShaW Go.Proofs.YtmeglndnkdgkoaaGreat.Path
theorem count_get {σ:SlabSt Nd} {h:Int} {x:Nd × Nat} (hx:σ.get? h = some x):σ.count h = x.2:=by unfold SlabSt.count; rw [hx]; rfl
theorem Rep.leaf_inv {f:View} {h:Int} {d:Nat} {k v:List UInt8} (hr:Rep f h d (.leaf k v)):∃ n,f h = some n ∧ n.kind = 1 ∧ n.key = k ∧ n.value = v:=by
 generalize ht:Tr.leaf k v = t at hr
 cases hr with
 | nil => cases ht
 | leaf hn hk => injection ht with e1 e2; exact ⟨_,hn,hk,e1.symm,e2.symm⟩
 | node _ _ _ _ _ => cases ht
theorem Rep.node_inv {f:View} {h:Int} {d:Nat} {l r:Tr} (hr:Rep f h d (.node l r)):∃ n,f h = some n ∧ n.kind = 2 ∧ Rep f n.left (d + 1) l ∧ Rep f n.right (d + 1) r:=by
 generalize ht:Tr.node l r = t at hr
 cases hr with
 | nil => cases ht
 | leaf _ _ => cases ht
 | node hn hk _ h1 h2 => injection ht with e1 e2; subst e1 e2; exact ⟨_,hn,hk,h1,h2⟩
def L2:Ents:=upd (upd [] (keyL 0) []) (keyL 128) []
theorem tree_L2:tree 256 L2 = .node (.leaf (keyL 0) []) (.leaf (keyL 128) []):=by
 have h:=ins_tree (L:=upd [] (keyL 0) []) (k:=keyL 128) (v := []) 256 (Nat.le_refl _) ⟨by decide,by decide,fun _ _ _ h => absurd h (Nat.not_lt_zero _)⟩ rfl
 have h2:ins (keyL 128) [] (256 - 256) (tree 256 (upd [] (keyL 0) [])) = .node (.leaf (keyL 0) []) (.leaf (keyL 128) []):=by kernel_rfl
 exact h.symm.trans h2
structure TwoS (σ:SlabSt Nd) (r:Int):Prop where
 db:Db σ r L2
 sole:Sole σ r
 live:Store.live σ = 3
 span:σ.slots.length ≤ 516
 ne:r ≠ 0
theorem sum_one {f:Nat → Nat} {r:Nat}:∀ {l:List Nat},l.Nodup → (∀ x ∈ l,x ≠ r → f x = 0) → (l.map f).sum ≤ f r
 | [],_,_ => by simp
 | a :: l,hn,h => by
  obtain ⟨h1,h2⟩:=List.nodup_cons.1 hn
  simp only [List.map_cons,List.sum_cons]
  by_cases e:a = r
  · subst e
    have:(l.map f).sum = 0:=sum_zero _ fun x hx => by
     obtain ⟨y,hy,rfl⟩:=List.mem_map.1 hx
     exact h y (List.mem_cons_of_mem _ hy) (fun e => h1 (e ▸ hy))
    omega
  have:=sum_one h2 (fun x hx => h x (List.mem_cons_of_mem _ hx))
  rw [h a (List.mem_cons_self ..) e]
  omega
section
variable {σ : SlabSt Nd} {r : Int}
theorem TwoS.held (T:TwoS σ r):Store.held σ r = 1:=(T.sole r (T.db.held.resolve_left T.ne)).2
theorem TwoS.held' (T:TwoS σ r) {h:Int} (hh:h ≠ r):Store.held σ h = 0:=by
 have h1:=held_nonneg T.db.good.sound h
 by_cases e:1 ≤ Store.held σ h
 · exact absurd (T.sole h e).1 hh
 omega
theorem TwoS.heldR (T:TwoS σ r) (h:Int):Store.held σ h = if h = r then 1 else 0:=by
 by_cases e:h = r
 · rw [if_pos e,e]; exact T.held
 rw [if_neg e]; exact T.held' e
theorem TwoS.nodes (T:TwoS σ r):∃ a b,(nd σ r).left = a ∧ (nd σ r).right = b ∧ a ≠ r ∧ b ≠ r ∧ a ≠ b ∧ ∀ h x,σ.get? h = some x → h = r ∨ ((h = a ∨ h = b) ∧ (nd σ h).left = 0 ∧ (nd σ h).right = 0):=by
 have hr:=T.db.rep
 rw [tree_L2] at hr
 obtain ⟨n,hn,hk,hl,hrr⟩:=hr.node_inv
 obtain ⟨na,ha,ka,kka,_⟩:=hl.leaf_inv
 obtain ⟨nb,hb,kb,kkb,_⟩:=hrr.leaf_inv
 obtain ⟨xr,hxr,rfl⟩:=sk_get hn
 obtain ⟨xa,hxa,rfl⟩:=sk_get ha
 obtain ⟨xb,hxb,rfl⟩:=sk_get hb
 have la:=(T.db.good.fit.leaf ha (by omega)).2
 have lb:=(T.db.good.fit.leaf hb (by omega)).2
 have hne:(stat xr.1).left ≠ (stat xr.1).right:=fun e => by
  rw [e,hxb] at hxa
  cases hxa
  rw [kka] at kkb
  exact absurd kkb (by decide +kernel)
 have h1:(stat xr.1).left ≠ r:=fun e => by rw [e,hxr] at hxa; cases hxa; omega
 have h2:(stat xr.1).right ≠ r:=fun e => by rw [e,hxr] at hxb; cases hxb; omega
 refine ⟨(stat xr.1).left,(stat xr.1).right,by rw [nd_some hxr]; rfl,by rw [nd_some hxr]; rfl,h1,h2,hne,fun h x hx => ?_⟩
 by_cases e1:h = r
 · exact .inl e1
 refine .inr ?_
 by_cases e2:h = (stat xr.1).left
 · subst e2; exact ⟨.inl rfl,by rw [nd_some hxa]; exact la.left,by rw [nd_some hxa]; exact la.right⟩
 by_cases e3:h = (stat xr.1).right
 · subst e3; exact ⟨.inr rfl,by rw [nd_some hxb]; exact lb.left,by rw [nd_some hxb]; exact lb.right⟩
 exfalso
 have:=nodup_len (σ:=σ) (l := [h,r,(stat xr.1).left,(stat xr.1).right]) (by simp [e1,e2,e3,h1.symm,h2.symm,hne]) (fun y hy => by
  simp only [List.mem_cons,List.not_mem_nil,or_false] at hy
  rcases hy with rfl | rfl | rfl | rfl
  · exact has_some hx
  · exact has_some hxr
  · exact has_some hxa
  exact has_some hxb)
 rw [handles_length,T.live] at this
 simp at this
theorem TwoS.count (T:TwoS σ r) {h:Int} {x:Nd × Nat} (hx:σ.get? h = some x):σ.count h = 1:=by
 obtain ⟨a,b,ea,eb,har,hbr,hab,hall⟩:=T.nodes
 have h0:=get_ne hx
 have hc:=T.db.good.sound.counts h x hx
 rw [count_get hx]
 have hne:x.2 ≠ 0:=by obtain ⟨_,_,_,h0,_⟩:=SlabSt.get?_some hx; exact h0
 have hs:sides σ h ≤ refs (nd σ r) h:=by
  rw [← sides_handles h]
  obtain ⟨xr,hxr,_⟩:=held_there (σ:=σ) (h:=r) (by rw [T.held]; omega)
  obtain ⟨m,hm,e⟩:=(mem_handles r).1 ⟨xr,hxr⟩
  rw [e]
  refine sum_one handles_nodup fun y hy hne => ?_
  obtain ⟨z,hz⟩:=(mem_handles (y:Int)).2 ⟨y,hy,rfl⟩
  rcases hall y z hz with e2 | ⟨_,h1,h2⟩
  · exact absurd (Int.ofNat_inj.1 (e2.trans e)) hne
  unfold refs
  rw [h1,h2,if_neg (Ne.symm h0)]
 have hr:refs (nd σ r) h ≤ (if h = r then 0 else 1):=by
  unfold refs
  rw [ea,eb]
  by_cases e:h = r
  · rw [if_neg (by omega),if_neg (by omega)]; simp
  rw [if_neg e]
  by_cases e1:a = h
  · rw [if_pos e1,if_neg (by omega)]; omega
  rw [if_neg e1]; split <;> omega
 have hh:=T.heldR h
 rw [held_some hx] at hh
 simp only [List.count_nil] at hc
 split at hr <;> split at hh <;> omega
theorem TwoS.cnt (T:TwoS σ r) {R:List Int} {k:Wk} (H:Wanting σ R k.todo.length k) (hR:r ∈ R) {h:Int} {x:Nd × Nat} (hx:σ.get? h = some x):k.cnt h + (if h = r then 1 else 0) = R.count h + 1:=by
 have h1:=H.count T.db.good (fun p hp => by rw [(T.sole p hp).1]; exact hR) hx
 rw [T.heldR] at h1
 have h2:=T.count hx
 rw [count_get hx] at h2
 by_cases e:h = r
 · rw [if_pos e] at h1 ⊢; omega
 rw [if_neg e] at h1 ⊢; omega
theorem filterMap_one {α β:Type} {g:α → Option β} {m:α} {y:β}:∀ {l:List α},l.Nodup → m ∈ l → g m = some y → (∀ x ∈ l,x ≠ m → g x = none) → l.filterMap g = [y]
 | a :: l,hn,hm,hy,h => by
  obtain ⟨h1,h2⟩:=List.nodup_cons.1 hn
  rcases List.mem_cons.1 hm with rfl | hm
  · rw [List.filterMap_cons_some hy,List.filterMap_eq_nil_iff.2 (fun x hx => h x (List.mem_cons_of_mem _ hx) (fun e => h1 (e ▸ hx)))]
  rw [List.filterMap_cons_none (h a (List.mem_cons_self ..) (fun e => h1 (e ▸ hm)))]
  exact filterMap_one h2 hm hy (fun x hx => h x (List.mem_cons_of_mem _ hx))
theorem filter_one {α:Type} {p:α → Bool} {m:α}:∀ {l:List α},l.Nodup → m ∈ l → p m = true → (∀ x ∈ l,x ≠ m → p x = false) → l.filter p = [m]
 | a :: l,hn,hm,hy,h => by
  obtain ⟨h1,h2⟩:=List.nodup_cons.1 hn
  rcases List.mem_cons.1 hm with rfl | hm
  · rw [List.filter_cons_of_pos hy,List.filter_eq_nil_iff.2 (fun x hx => by rw [h x (List.mem_cons_of_mem _ hx) (fun e => h1 (e ▸ hx))]; simp)]
  rw [List.filter_cons_of_neg (by rw [h a (List.mem_cons_self ..) (fun e => h1 (e ▸ hm))]; simp)]
  exact filter_one h2 hm hy (fun x hx => h x (List.mem_cons_of_mem _ hx))
theorem TwoS.there (T:TwoS σ r):∃ x,σ.get? r = some x:=by
 obtain ⟨xr,hxr,_⟩:=held_there (σ:=σ) (h:=r) (by rw [T.held]; omega)
 exact ⟨xr,hxr⟩
theorem TwoS.len (T:TwoS σ r) {R:List Int} {k:Wk} (H:Wanting σ R k.todo.length k) (hR:r ∈ R):k.todo.length = 3:=by
 have h1:=H.ed.len
 have h2:=nodup_length_int ((handles σ).map fun n:Nat => (n:Int)) k.todo (List.Pairwise.map _ (fun a b h e => h (Int.ofNat_inj.1 e)) handles_nodup) (fun y hy => by
  obtain ⟨m,hm,e⟩:=List.mem_map.1 hy
  obtain ⟨z,hz⟩:=(mem_handles y).2 ⟨m,hm,e.symm⟩
  exact H.full T.db.good (fun p hp => by rw [(T.sole p hp).1]; exact hR) hz)
 rw [List.length_map] at h2
 have h3:=handles_length (σ:=σ)
 rw [T.live] at h3
 omega
theorem TwoS.one (T:TwoS σ r) {R:List Int} {k:Wk} (H:Wanting σ R k.todo.length k) (hR:∀ h,h ≠ 0 → R.count h = if h = r then 1 else 0):finds σ k.cnt = [] ∧ lostL k.cnt (handles σ) = [] ∧ k.todo.length = 3:=by
 have hr:r ∈ R:=List.count_pos_iff.1 (by rw [hR r T.ne,if_pos rfl]; omega)
 have hall:∀ m ∈ handles σ,k.cnt (m:Int) = 1 ∧ σ.count (m:Int) = 1:=fun m hm => by
  obtain ⟨x,hx⟩:=(mem_handles (m:Int)).2 ⟨m,hm,rfl⟩
  have h1:=T.cnt H hr hx
  rw [hR _ (get_ne hx)] at h1
  exact ⟨by omega,T.count hx⟩
 refine ⟨?_,?_,T.len H hr⟩
 · unfold finds findsL
   refine List.filterMap_eq_nil_iff.2 fun m hm => ?_
   obtain ⟨h1,h2⟩:=hall m hm
   rw [if_pos (by rw [h1,h2])]
 unfold lostL
 rw [List.filter_eq_nil_iff.2 fun m hm => by rw [(hall m hm).1]; simp]
 rfl
theorem TwoS.two (T:TwoS σ r) {k:Wk} (H:Wanting σ [r,r] k.todo.length k):finds σ k.cnt = [(r,2,1)] ∧ (k.todo.filter fun x => decide (1 < k.cnt x)).length = 1:=by
 have hc:∀ h x,σ.get? h = some x → k.cnt h = if h = r then 2 else 1:=fun h x hx => by
  have h1:=T.cnt H (List.mem_cons_self ..) hx
  have h2:List.count h [r,r] = if h = r then 2 else 0:=by
   by_cases e:h = r
   · subst e; simp
   rw [if_neg e]; simp [Ne.symm e]
  rw [h2] at h1
  by_cases e:h = r
  · rw [if_pos e] at h1 ⊢; rw [if_pos e] at h1; omega
  rw [if_neg e] at h1 ⊢; rw [if_neg e] at h1; omega
 obtain ⟨xr,hxr⟩:=T.there
 obtain ⟨m,hm,e⟩:=(mem_handles r).1 ⟨xr,hxr⟩
 refine ⟨?_,?_⟩
 · unfold finds findsL
   refine filterMap_one (m:=m) handles_nodup hm ?_ fun y hy hne => ?_
   · rw [← e,hc r xr hxr,T.count hxr,if_pos rfl]; rfl
   obtain ⟨z,hz⟩:=(mem_handles (y:Int)).2 ⟨y,hy,rfl⟩
   have hyr:¬ ((y:Int) = r):=by rw [e]; exact fun h => hne (Int.ofNat_inj.1 h)
   have h1:=hc _ z hz
   rw [if_neg hyr] at h1
   rw [h1,T.count hz,if_pos rfl]
 rw [filter_one (m:=r) H.nodup (H.full T.db.good (fun p hp => by rw [(T.sole p hp).1]; exact List.mem_cons_self ..) hxr) (by rw [hc r xr hxr,if_pos rfl]; rfl) (fun y hy hne => by
  obtain ⟨z,hz⟩:=has_get (H.there y hy)
  rw [hc y z hz,if_neg hne]; rfl)]
 rfl
theorem Fro.none {h:Int} (hf:Fro σ [] h):False:=by
 induction hf with
 | root h1 _ => cases h1
 | left _ _ ih => exact ih
 | right _ _ ih => exact ih
theorem TwoS.nil (T:TwoS σ r) {k:Wk} (H:Wanting σ [] k.todo.length k):∃ h1 l,finds σ k.cnt = (h1,0,1) :: l ∧ l.length = 2:=by
 have ht:k.todo = []:=List.eq_nil_iff_forall_not_mem.2 fun y hy => (H.fro y hy).none
 have hc:∀ h,k.cnt h = 0:=fun h => by
  have:=H.mem h
  rw [ht] at this
  simp at this
  omega
 have h3:(handles σ).length = 3:=by rw [handles_length,T.live]
 have hf:finds σ k.cnt = (handles σ).map fun m:Nat => ((m:Int),(0:Int),(1:Int)):=by
  unfold finds findsL
  have:∀ l:List Nat,(∀ m ∈ l,m ∈ handles σ) → (l.filterMap fun h:Nat => if ((σ.count (h:Int):Nat):Int) = (k.cnt (h:Int):Nat) then none else some ((h:Int),((k.cnt (h:Int):Nat):Int),((σ.count (h:Int):Nat):Int))) = l.map fun m:Nat => ((m:Int),(0:Int),(1:Int)):=by
   intro l
   induction l with
   | nil => intro _; rfl
   | cons a l ih =>
    intro hl
    obtain ⟨z,hz⟩:=(mem_handles (a:Int)).2 ⟨a,hl a (List.mem_cons_self ..),rfl⟩
    rw [List.filterMap_cons_some (b:=((a:Int),(0:Int),(1:Int))) (by rw [hc,T.count hz]; rfl),ih (fun m hm => hl m (List.mem_cons_of_mem _ hm))]
    rfl
  exact this _ (fun _ h => h)
 rw [hf]
 match handles σ,h3 with
 | [a,b,c],_ => exact ⟨_,_,rfl,rfl⟩
end
end Go.Proofs.YtmeglndnkdgkoaaGreat.Store
namespace Go.Proofs.YtmeglndnkdgkoaaGreat.Law12
open Go Go.RowKit Go.Proofs.YtmeglndnkdgkoaaGreat Go.Proofs.YtmeglndnkdgkoaaGreat.ShaW Go.Proofs.YtmeglndnkdgkoaaGreat.Path Go.Proofs.YtmeglndnkdgkoaaGreat.Store Go.Proofs.YtmeglndnkdgkoaaGreat.Law9
theorem two_ok (w:World):Calls Tryz.prog 58 #[] w fun e w' => ∃ s σ r,e = .returned (.tuple #[.pointer (some ⟨s,0,none⟩),.int .i64 r]) ∧ TwoS σ r ∧ Ow w w' s σ (fun _ => False):=by
 obtain ⟨K0,hK0⟩:∃ K,K = brow (keyL 0):=⟨_,rfl⟩
 obtain ⟨K1,hK1⟩:∃ K,K = brow (keyL 128):=⟨_,rfl⟩
 have hb0:=key_built
 have hb1:=key_built1
 rw [← hK0] at hb0
 rw [← hK1] at hb1
 have HB0:=Lib.hid hb0
 have HB1:=Lib.hid hb1
 have HK0:=Lib.hid hK0
 have HK1:=Lib.hid hK1
 clear hb0 hb1 hK0 hK1
 go_enter Tryz.func58,Tryz.ntmps58
 go_wp2_with fail
 refine (New_own 600 w (by decide) (by decide)).mono ?_; rintro e w1 ⟨s,rfl,h1⟩
 have D0:=Db.new 600 (by decide) (by decide)
 have hp:=Put_db (h1.ow.less (G':=fun _ => False) (fun _ => fEq)) D0 (key:=keyL 0) (bs := []) rfl (Bytes.nil _) (fun h => absurd rfl h) (by simp) (by decide) (by decide)
 rw [← HK0.out] at hp
 have HP:=Lib.hid hp
 clear hp h1
 go_wp2_with (first
  | fail
  | ((with_reducible show zOq (.build 31 #[])); refine wpList_build_none rfl 31 rfl K0 HB0.out ?_)
  | ((with_reducible show zOq (.build 31 _)); refine wpList_build_one rfl 31 0 _ rfl (.int .u8 128) rfl K1 HB1.out ?_))
 refine HP.out.mono ?_; rintro e w2 ⟨r1,σ1,rfl,o2,b2,W2,D2,_⟩
 have S2:=W2.sole (Sole.new 600 0)
 have hu1:live σ1 = 1:=by rw [D2.live S2,tree1.1]
 have hl1:live σ1 + 258 ≤ σ1.room:=by rw [hu1,W2.room]; decide
 have ht1:total σ1 + 600 < 1073741824:=by have:=W2.total; rw [show total (⟨600,[],[]⟩:SlabSt Nd) = 0 from rfl] at this; omega
 have hsp1:σ1.slots.length ≤ 258:=by have:=W2.span; simpa using this
 have hp:=Put_db o2 D2 (key:=keyL 128) (bs := []) rfl (Bytes.nil _) (fun h => absurd rfl h) (by simp) hl1 ht1
 rw [← HK1.out] at hp
 have HP2:=Lib.hid hp
 have HS2:=(hIq S2 hsp1)
 clear hp o2 b2 W2 HP S2 hl1 ht1 hu1 D2 D0 hsp1
 go_wp2_with (first
  | fail
  | ((with_reducible show zOq (.build 31 #[])); refine wpList_build_none rfl 31 rfl K0 HB0.out ?_)
  | ((with_reducible show zOq (.build 31 _)); refine wpList_build_one rfl 31 0 _ rfl (.int .u8 128) rfl K1 HB1.out ?_))
 refine HP2.out.mono ?_; rintro e w5 ⟨r2,σ2,rfl,o5,b5,W5,D5,_⟩
 have S5:=W5.sole HS2.out.1
 have hT:TwoS σ2 r2:=⟨D5,S5,by rw [D5.live S5]; exact tree2.1,by have:=W5.span; have:=HS2.out.2; omega,W5.ne⟩
 have HT:=(hIq hT o5)
 clear o5 b5 W5 D5 S5 hT HP2
 go_wp2
 go_ret2
 exact ⟨s,σ2,r2,rfl,HT.out.1,HT.out.2⟩
structure At2 (w0 w:World) (s:Nat) (r:Int):Prop where
 ex:∃ σ F,At w s F σ ∧ TwoS σ r
section
variable {w0 w w1 : World} {s : Nat} {r : Int}
theorem At2.adds (h:At2 w0 w s r) (a:Adds w w1):At2 w0 w1 s r:=by
 obtain ⟨σ,F,h1,h2⟩:=h.ex
 exact ⟨σ,F,h1.adds a,h2⟩
theorem chk_roots {σ:SlabSt Nd} (T:TwoS σ r) {R:List Int} (hl:R.length ≤ 64) (hR:∀ x ∈ R,x = r ∨ x = 0):chk σ R = 0:=by
 unfold chk
 rw [if_neg (by omega)]
 refine rerr_zero.2 fun x hx => ?_
 rcases hR x hx with rfl | rfl
 · exact rootErr_hand T.db.hand
 rfl
theorem ints_new (w:World) (l:List Int):IntsAt (w.alloc (.cells (intL l).toArray 3)) (some ⟨w.heap.size,0,none⟩) l:=fun i x hx => by
 refine ⟨_,_,rfl,?_⟩
 rw [Nat.zero_add]
 refine row_cell (heap_alloc_new w _) ?_
 simp [intL,hx]
theorem At2.chk1 (h:At2 w0 w s r) {ao:Option Addr} {R:List Int} (cap:Nat) (hR:IntsAt w ao R) (hl:R.length ≤ 64) (h2:∀ x ∈ R,x = r ∨ x = 0) (hc:R.count r = 1) :
 Calls Tryz.prog 42 #[.pointer (some ⟨s,0,none⟩),.slice ao R.length cap] w fun e w' => ∃ qo qc,e = .returned (.tuple #[.slice qo 0 qc,.int .i64 0]) ∧ Adds w w':=by
 obtain ⟨σ,F,hF,T⟩:=h.ex
 refine (Check_good hF T.db.good cap hR (chk_roots T hl h2)).mono ?_
 rintro e w' ⟨v,k,rfl,hk,hown,a⟩
 have hf:=(T.one hk (fun x hx => by
  by_cases e:x = r
  · rw [if_pos e,e,hc]
  rw [if_neg e]
  refine List.count_eq_zero.2 fun hm => ?_
  rcases h2 x hm with h | h
  · exact e h
  exact hx h)).1
 rw [hf] at hown
 obtain ⟨qo,qc,rfl⟩:=owns_form hown
 exact ⟨qo,qc,rfl,a⟩
theorem At2.chk0 (h:At2 w0 w s r) :
 Calls Tryz.prog 42 #[.pointer (some ⟨s,0,none⟩),.slice none 0 0] w fun e w' => ∃ g qc cur,e = .returned (.tuple #[.slice (some ⟨g,0,none⟩) 3 qc,.int .i64 0]) ∧ w'.heap[g]? = some (.cells cur 103 (0,0)) ∧ cur[1]? = some (.int .i64 0) ∧ cur[2]? = some (.int .i64 1) ∧ 3 ≤ qc ∧ w.heap.size ≤ g ∧ Adds w w':=by
 obtain ⟨σ,F,hF,T⟩:=h.ex
 refine (Check_good (R := []) hF T.db.good 0 (IntsAt.nil w none) (chk_roots T (by simp) (fun x hx => by cases hx))).mono ?_
 rintro e w' ⟨v,k,rfl,hk,hown,a⟩
 obtain ⟨h1,l,hf,hl⟩:=T.nil hk
 rw [hf] at hown
 rw [show ((h1,(0:Int),(1:Int)) :: l).length = 3 by simp [hl]] at hown
 obtain ⟨g,cap,cur,rfl,hg,q1,q2,q3,q4⟩:=owns_block hown (by omega)
 refine ⟨g,cap,cur,rfl,hg,?_,?_,q1,(hown.lt g rfl).1,a⟩
 · exact take_get q4 (by simp [fdL])
 exact take_get q4 (by simp [fdL])
theorem At2.chk2 (h:At2 w0 w s r) {ao:Option Addr} (cap:Nat) (hR:IntsAt w ao [r,r]) :
 Calls Tryz.prog 42 #[.pointer (some ⟨s,0,none⟩),.slice ao 2 cap] w fun e w' => ∃ g qc cur,e = .returned (.tuple #[.slice (some ⟨g,0,none⟩) 1 qc,.int .i64 0]) ∧ w'.heap[g]? = some (.cells cur 103 (0,0)) ∧ 3 ≤ cur.size ∧ cur.extract 0 (0 + 3) = #[.int .i64 r,.int .i64 2,.int .i64 1] ∧ 1 ≤ qc ∧ w.heap.size ≤ g ∧ Adds w w':=by
 obtain ⟨σ,F,hF,T⟩:=h.ex
 refine (Check_good (R := [r,r]) hF T.db.good cap hR (chk_roots T (by simp) (fun x hx => by simp at hx; exact .inl hx))).mono ?_
 rintro e w' ⟨v,k,rfl,hk,hown,a⟩
 rw [(T.two hk).1] at hown
 obtain ⟨g,cap',cur,rfl,hg,q1,q2,q3,q4⟩:=owns_block hown (by simp)
 have hc:3 ≤ cur.size:=by rw [q3]; simp only [List.length_singleton] at q1; omega
 refine ⟨g,cap',cur,rfl,hg,hc,?_,q1,(hown.lt g rfl).1,a⟩
 apply Array.ext'
 simp only [Array.toList_extract,List.extract,List.drop_zero]
 have:cur.toList.take (1 * 3) = [.int .i64 r,.int .i64 2,.int .i64 1]:=q4
 simpa using this
end
theorem sizeFd:(Tryz.prog.info? 103).map (·.size) = some 3:=by kernel_rfl
theorem awake_ok (w:World):Calls Tryz.prog 49 #[] w fun e w' => e = .returned (.bool true) ∧ Adds w w':=by
 go_enter Tryz.func49,Tryz.ntmps49
 go_wp2_with fail
 refine (two_ok w).mono ?_; rintro e w1 ⟨s,σ,r,rfl,hT,hO⟩
 obtain ⟨F,hF⟩:=hO.at
 have h1:At2 w w1 s r:=⟨σ,F,hF,hT⟩
 have H1:=Lib.hid h1
 have A1:=Lib.hid hO.world
 have hc1:=(h1.adds ((Ch.refl _ w1).alloc (.cells (intL [r]).toArray 3))).chk1 1 (ints_new w1 [r]) (by simp) (fun x hx => by simp at hx; exact .inl hx) (by simp)
 have HC1:=Lib.hid hc1
 clear h1 hF hT hO hc1
 go_wp2_with fail
 refine HC1.out.mono ?_; rintro e w2 ⟨qo,qc,rfl,a2⟩
 have A2:=Lib.hid (((Ch.refl (fun _ => False) w1).alloc (.cells (intL [r]).toArray 3)).trans a2 (fun _ => fEq))
 have HC2:=Lib.hid (H1.out.adds A2.out).chk0
 clear a2 HC1
 go_wp2_with fail
 refine HC2.out.mono ?_; rintro e w3 ⟨g3,qc3,cur3,rfl,r3,c31,c32,hq3,hg3,a3⟩
 have A3:=Lib.hid (A2.out.trans a3 (fun _ => fEq))
 have R3:=(hIq r3 (aIq c31 (aIq c32 hq3)))
 have hc3:=((H1.out.adds A3.out).adds ((Ch.refl _ w3).alloc (.cells (intL [r,r]).toArray 3))).chk2 2 (ints_new w3 [r,r])
 have HC3:=Lib.hid hc3
 clear r3 c31 c32 hq3 a3 hc3 HC2
 go_wp2_with fail
 refine HC3.out.mono ?_; rintro e w4 ⟨g4,qc4,cur4,rfl,r4,cs4,ce4,hq4,hg4,a4⟩
 have a34:Adds w3 w4:=((Ch.refl (fun _ => False) w3).alloc (.cells (intL [r,r]).toArray 3)).trans a4 (fun _ => fEq)
 have A4:=Lib.hid (A3.out.trans a34 (fun _ => fEq))
 have r34:=a34.row R3.out.1 id
 have c31:=row_cell r34 R3.out.2.1
 have c32:=row_cell r34 R3.out.2.2.1
 have hq3:=R3.out.2.2.2
 have R4:=(hIq r4 (aIq cs4 ce4))
 clear a4 a34 HC3 r34 r4 cs4 ce4
 go_wp2_with (first
  | fail
  | ((with_reducible show zOq (.load 103 _)); refine wpList_gload_part (by first | rfl | (simp [Region.wanted]; done)) 103 _ rfl g4 0 rfl R4.out.1 Tryz.underlying103 rfl sizeFd (by have:=R4.out.2.1; omega) #[.int .i64 r,.int .i64 2,.int .i64 1] R4.out.2.2 ?_))
 go_ret
 exact ⟨rfl,A1.out.trans A4.out (fun _ => fEq)⟩
end Go.Proofs.YtmeglndnkdgkoaaGreat.Law12

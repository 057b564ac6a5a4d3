/- Laws of the layers below. -/
import Derived.Test.YtmeglndnkdgkoaaGreatQe18
import Derived.Lib.Bytealg
import Derived.Sort.Statements
set_option maxHeartbeats 3200000
set_option maxRecDepth 100000
set_option linter.unusedVariables false
namespace Go.Proofs.YtmeglndnkdgkoaaGreat.Store
open Go.RowKit Go.Proofs.YtmeglndnkdgkoaaGreat.ShaW Go.Proofs.YtmeglndnkdgkoaaGreat.Path
open Go.Maps (Keyed keyOf_int_mk)
section
variable {σ : SlabSt Nd} {R : List Int} {k k1 k2 : Wk} {a b x : Int}
theorem mem_le_sum {α:Type} {f:α → Nat} {l:List α} {y:α} (h:y ∈ l):f y ≤ (l.map f).sum:=by
 induction l with
 | nil => cases h
 | cons z l ih =>
  simp only [List.map_cons,List.sum_cons]
  rcases List.mem_cons.1 h with rfl | h
  · omega
  have:=ih h; omega
theorem Wanting.of_fro (H:Wanting σ R k.todo.length k) (h:Fro σ R x):x ∈ k.todo:=by
 have step:∀ {y z:Int},y ∈ k.todo → z ≠ 0 → 1 ≤ refs (nd σ y) z → z ∈ k.todo:=fun {y z} hy hz hr => by
  refine (H.mem z).2 ?_
  rw [H.cnt' hz]
  have:refs (nd σ y) z ≤ (k.todo.map fun q => refs (nd σ q) z).sum:=mem_le_sum (f:=fun q => refs (nd σ q) z) hy
  omega
 induction h with
 | root h1 h2 =>
  refine (H.mem _).2 ?_
  rw [H.cnt' h2]
  have:=List.count_pos_iff.2 h1
  omega
 | left _ h2 ih => exact step ih h2 (by unfold refs; rw [if_pos rfl]; omega)
 | right _ h2 ih => exact step ih h2 (by unfold refs; rw [if_pos (c:=_ = (nd σ _).right) rfl]; omega)
theorem Wanting.mem_fro (H:Wanting σ R k.todo.length k):x ∈ k.todo ↔ Fro σ R x:=⟨H.fro x,H.of_fro⟩
def Up (l:List Int):Prop := ∀ i x y,l[i]? = some x → l[i + 1]? = some y → x < y
theorem occ_up (σ:SlabSt Nd):∀ j,(σ.occ j).Pairwise (· < ·) ∧ ∀ n ∈ σ.occ j,n ≤ j
 | 0 => by simp [SlabSt.occ]
 | j + 1 => by
  obtain ⟨h1,h2⟩:=occ_up σ j
  cases hx:σ.get? ((j:Int) + 1) with
  | none => rw [SlabSt.occ_none hx]; exact ⟨h1,fun n hn => by have:=h2 n hn; omega⟩
  | some y =>
   rw [SlabSt.occ_some hx]
   refine ⟨List.pairwise_append.2 ⟨h1,by simp,fun a ha b hb => by rw [List.mem_singleton.1 hb]; have:=h2 a ha; omega⟩,fun n hn => ?_⟩
   rcases List.mem_append.1 hn with hn | hn
   · have:=h2 n hn; omega
   rw [List.mem_singleton.1 hn]; omega
theorem handles_up:(handles σ).Pairwise (· < ·):=(occ_up σ _).1
structure PartsF (σ:SlabSt Nd) (la lb lc ld:List Int):Prop where
 small:∀ x,x ∈ la ∨ x ∈ lb ∨ x ∈ lc ∨ x ∈ ld → 0 ≤ x ∧ x ≤ 65536
 both:∀ x,x ∈ lc ↔ x ∈ la ∨ x ∈ lb
 nodup:lc.Nodup
 upc:Up lc
 upd:Up ld
 lost:∀ x ∈ ld,has σ x = true ∧ x ∉ lc
 all:lc.length + ld.length = σ.used
 lenA:la.length ≤ 65536
 lenB:lb.length ≤ 65536
theorem handles_le (G:Good σ):(handles σ).length ≤ 65536:=by
 have h2:(handles σ).length ≤ σ.slots.length:=SlabSt.occ_len σ _
 have:=G.sound.wf.len
 have:=G.sound.wf.room
 omega
def insI (x:Int) (S:List Int):List Int:=if x ∈ S then S else x :: S
noncomputable abbrev elemBI:Value → Option (DataW Value × List MemPlace):=plainElem Tryz.prog 4
structure ISet (w:World) (b n:Nat) (S:List Int):Prop where
 ex:∃ D,w.ownsMap Tryz.prog 3 elemBI b n D ∧ Maps.size D = S.length ∧ ∀ x:Int,D.atKey (ky x) (.lit (.bool false)) = .lit (.bool (decide (x ∈ S))) ∧ Maps.has D (ky x) = decide (x ∈ S)
end
section
variable {w : World} {s : Nat} {F : Nat → Prop} {σ : SlabSt Nd} {R : List Int} {ao : Option Addr}
def AuditRet (w w':World) (σ:SlabSt Nd) (R:List Int) (pick:Wk → List Int) (e:Ending):Prop :=
 ∃ (qo:Option Addr) (qc:Nat) (l:List Int),e = .returned (.tuple #[.slice qo l.length qc,.int .i64 (chk σ R)]) ∧ w'.ownsRow w.heap.size 3 1 (.slice qo l.length qc) l.length (intL l) ∧ Adds w w' ∧
  ((chk σ R ≠ 0 ∧ l = []) ∨ (chk σ R = 0 ∧ ∃ k,Wanting σ R k.todo.length k ∧ l = pick k))
theorem Reached_any (h:At w s F σ) (G:Good σ) (cap:Nat) (hR:IntsAt w ao R) (hl:R.length < 4611686018427387904) :
 Calls Tryz.prog 50 #[.pointer (some ⟨s,0,none⟩),.slice ao R.length cap] w fun e w' => AuditRet w w' σ R (fun k => k.todo.mergeSort leI) e:=by
 unfold AuditRet
 by_cases hc:chk σ R = 0
 · refine (Reached_good h G cap hR hc).mono fun e w' ⟨v,k,he,hW,ho,ha⟩ => ?_
   have hlen:(k.todo.mergeSort leI).length = k.todo.length:=(List.mergeSort_perm _ _).length_eq
   rw [← hlen] at ho
   obtain ⟨qo,qc,rfl⟩:=owns_form ho
   exact ⟨qo,qc,_,by rw [he,hc],ho,ha,.inr ⟨hc,k,hW,rfl⟩⟩
 refine (Reached_bad h cap hR hl hc).mono fun e w' ⟨he,ha⟩ => ⟨none,0,[],he,World.ownsRow_nil _ _ _ _,ha,.inl ⟨hc,rfl⟩⟩
theorem Lost_any (h:At w s F σ) (G:Good σ) (cap:Nat) (hR:IntsAt w ao R) (hl:R.length < 4611686018427387904) :
 Calls Tryz.prog 51 #[.pointer (some ⟨s,0,none⟩),.slice ao R.length cap] w fun e w' => AuditRet w w' σ R (fun k => lostL k.cnt (handles σ)) e:=by
 unfold AuditRet
 by_cases hc:chk σ R = 0
 · refine (Lost_good h G cap hR hc).mono fun e w' ⟨v,k,he,hW,ho,ha⟩ => ?_
   obtain ⟨qo,qc,rfl⟩:=owns_form ho
   exact ⟨qo,qc,_,by rw [he,hc],ho,ha,.inr ⟨hc,k,hW,rfl⟩⟩
 refine (Lost_bad h cap hR hl hc).mono fun e w' ⟨he,ha⟩ => ⟨none,0,[],he,World.ownsRow_nil _ _ _ _,ha,.inl ⟨hc,rfl⟩⟩
end
end Go.Proofs.YtmeglndnkdgkoaaGreat.Store
namespace Go.Proofs.YtmeglndnkdgkoaaGreat.Store
open Go.RowKit Go.Proofs.YtmeglndnkdgkoaaGreat.ShaW Go.Proofs.YtmeglndnkdgkoaaGreat.Path
section
variable {σ : SlabSt Nd} {R : List Int} {k k' : Wk} {x h : Int}
def reachI (S:List Int) (l:List Nat):List Int:=(l.filter fun n:Nat => decide ((n:Int) ∈ S)).map fun n:Nat => (n:Int)
theorem reachI_snoc (S:List Int) (l:List Nat) (n:Nat):reachI S (l ++ [n]) = reachI S l ++ (if (n:Int) ∈ S then [(n:Int)] else []):=by
 unfold reachI
 rw [List.filter_append,List.map_append]
 congr 1
 by_cases e:(n:Int) ∈ S
 · simp [e]
 simp [e]
theorem reachI_len (S:List Int) (l:List Nat):(reachI S l).length ≤ l.length:=by
 unfold reachI
 rw [List.length_map]
 exact List.length_filter_le _ _
theorem reachI_mem (H:Wanting σ R k.todo.length k):x ∈ reachI k.todo (handles σ) ↔ x ∈ k.todo:=by
 unfold reachI
 constructor
 · intro hx
   obtain ⟨n,hn,rfl⟩:=List.mem_map.1 hx
   exact of_decide_eq_true (List.mem_filter.1 hn).2
 intro hx
 obtain ⟨z,hz⟩:=has_get (H.there x hx)
 obtain ⟨m,hm,e⟩:=(mem_handles x).1 ⟨z,hz⟩
 exact List.mem_map.2 ⟨m,List.mem_filter.2 ⟨hm,by rw [← e]; exact decide_eq_true hx⟩,e.symm⟩
theorem reachI_up (S:List Int):(reachI S (handles σ)).Pairwise (· < ·):=by
 unfold reachI
 refine List.pairwise_map.2 ((handles_up.filter _).imp fun {a b} h => by omega)
theorem reachI_sort (H:Wanting σ R k.todo.length k):k.todo.mergeSort leI = reachI k.todo (handles σ):=by
 have hs:(k.todo.mergeSort leI).Pairwise (fun x y => leI x y = true):=List.pairwise_mergeSort (fun a b c h1 h2 => by unfold leI at *; simp at *; omega) (fun a b => by unfold leI; simp; omega) _
 have hu:(reachI k.todo (handles σ)).Pairwise (fun x y => leI x y = true):=(reachI_up _).imp fun {a b} h => by unfold leI; simp; omega
 have hn:(reachI k.todo (handles σ)).Nodup:=(reachI_up _).imp fun {a b} h => by omega
 refine List.Perm.eq_of_pairwise (le:=fun a b => leI a b = true) (fun a b _ _ h1 h2 => by unfold leI at h1 h2; simp at h1 h2; omega) hs hu ((List.mergeSort_perm _ _).trans ((List.perm_ext_iff_of_nodup H.nodup hn).2 fun y => (reachI_mem H).symm))
theorem reachI_perm (H:Wanting σ R k.todo.length k):k.todo.Perm (reachI k.todo (handles σ)) :=
 (List.perm_ext_iff_of_nodup H.nodup ((reachI_up _).imp fun {a b} h => by omega)).2 fun y => (reachI_mem H).symm
def wantL (σ:SlabSt Nd) (L R:List Int) (h:Int):Nat:=(L.map fun x => refs (nd σ x) h).sum + R.count h
theorem wantL_cnt (H:Wanting σ R k.todo.length k) (h0:h ≠ 0):wantL σ (reachI k.todo (handles σ)) R h = k.cnt h:=by
 unfold wantL
 rw [H.cnt' h0,((reachI_perm H).map _).sum_nat]
 omega
theorem Wanting.same (H:Wanting σ R k.todo.length k) (H':Wanting σ R k'.todo.length k'):k.todo.Perm k'.todo ∧ k.cnt = k'.cnt:=by
 have hp:k.todo.Perm k'.todo:=(List.perm_ext_iff_of_nodup H.nodup H'.nodup).2 fun y => by rw [H.mem_fro,H'.mem_fro]
 refine ⟨hp,funext fun y => ?_⟩
 by_cases h0:y = 0
 · rw [h0,H.zero,H'.zero]
 rw [H.cnt' h0,H'.cnt' h0,(hp.map _).sum_nat]
theorem shared_same (H:Wanting σ R k.todo.length k):(k.todo.filter fun x => decide (1 < k.cnt x)).length = ((reachI k.todo (handles σ)).filter fun x => decide (1 < wantL σ (reachI k.todo (handles σ)) R x)).length:=by
 have e:(reachI k.todo (handles σ)).filter (fun x => decide (1 < wantL σ (reachI k.todo (handles σ)) R x)) = (reachI k.todo (handles σ)).filter (fun x => decide (1 < k.cnt x)):=by
  refine List.filter_congr fun y hy => ?_
  have h0:y ≠ 0:=(H.fro y ((reachI_mem H).1 hy)).ne
  rw [wantL_cnt H h0]
 rw [e]
 exact ((reachI_perm H).filter _).length_eq
theorem findsL_congr (σ:SlabSt Nd) {f g:Int → Nat} {l:List Nat} (h:∀ n ∈ l,f (n:Int) = g (n:Int)):findsL σ f l = findsL σ g l:=by
 unfold findsL
 induction l with
 | nil => rfl
 | cons a l ih =>
  have e:=h a (List.mem_cons_self ..)
  have e2:=ih fun n hn => h n (List.mem_cons_of_mem _ hn)
  simp only [List.filterMap_cons,e,e2]
theorem finds_same (H:Wanting σ R k.todo.length k):finds σ k.cnt = findsL σ (wantL σ (reachI k.todo (handles σ)) R) (handles σ):=by
 unfold finds
 refine findsL_congr σ fun n hn => ?_
 have h0:(n:Int) ≠ 0:=by
  obtain ⟨y,hy⟩:=(mem_handles (n:Int)).2 ⟨n,hn,rfl⟩
  exact get_ne hy
 rw [wantL_cnt H h0]
theorem lost_same (H:Wanting σ R k.todo.length k):lostL k.cnt (handles σ) = ((handles σ).filter fun n:Nat => decide ((n:Int) ∉ reachI k.todo (handles σ))).map fun n:Nat => (n:Int):=by
 unfold lostL
 congr 1
 refine List.filter_congr fun n hn => ?_
 have h1:=H.mem (n:Int)
 have h2:=reachI_mem (x:=(n:Int)) H
 by_cases h3:(n:Int) ∈ k.todo
 · have:0 < k.cnt (n:Int):=h1.1 h3
   rw [decide_eq_false (by omega),decide_eq_false (fun h => h (h2.2 h3))]
 have:¬ 0 < k.cnt (n:Int):=fun h => h3 (h1.2 h)
 rw [decide_eq_true (by omega)]
 have h4:=mt h2.1 h3
 simp [h4]
end
theorem u8_lt {a b:UInt8}:a < b ↔ a.toNat < b.toNat:=UInt8.lt_iff_toNat_lt
theorem u8_eq {a b:UInt8}:a = b ↔ a.toNat = b.toNat:=UInt8.toNat_inj.symm
theorem div_step (n j:Nat) (hj:j < 8):n / 2 ^ (7 - j) = 2 * (n / 2 ^ (8 - j)) + n / 2 ^ (7 - j) % 2:=by
 have:n / 2 ^ (8 - j) = n / 2 ^ (7 - j) / 2:=by
  rw [Nat.div_div_eq_div_mul, ← Nat.pow_succ,Nat.succ_eq_add_one,show 7 - j + 1 = 8 - j by omega]
 omega
theorem high_eq (x y:UInt8):∀ j,j ≤ 8 → (∀ i,i < j → bbit x i = bbit y i) → x.toNat / 2 ^ (8 - j) = y.toNat / 2 ^ (8 - j)
 | 0,_,_ => by
  have a:=x.toNat_lt
  have b:=y.toNat_lt
  rw [Nat.div_eq_of_lt (by simpa using a),Nat.div_eq_of_lt (by simpa using b)]
 | j + 1,hj,h => by
  have ih:=high_eq x y j (by omega) (fun i hi => h i (by omega))
  have e:=h j (by omega)
  unfold bbit at e
  have a:=div_step x.toNat j (by omega)
  have b:=div_step y.toNat j (by omega)
  rw [show 8 - (j + 1) = 7 - j by omega,a,b,ih,e]
theorem byte_lt (x y:UInt8) (j:Nat) (hj:j < 8) (h:∀ i,i < j → bbit x i = bbit y i) (hx:bbit x j = 0) (hy:bbit y j = 1):x < y:=by
 rw [u8_lt]
 have e:=high_eq x y j (by omega) h
 have a:=div_step x.toNat j hj
 have b:=div_step y.toNat j hj
 unfold bbit at hx hy
 rw [hx,e] at a
 rw [hy] at b
 rcases Nat.lt_or_ge x.toNat y.toNat with g | g
 · exact g
 have:=Nat.div_le_div_right (c:=2 ^ (7 - j)) g
 omega
theorem byte_eq (x y:UInt8) (h:∀ i,i < 8 → bbit x i = bbit y i):x = y:=by
 rw [u8_eq]
 have e:=high_eq x y 8 (Nat.le_refl _) h
 simpa using e
theorem kbit_hd (x:UInt8) (l:List UInt8) {d:Nat} (h:d < 8):kbit (x :: l) d = bbit x d:=by
 unfold kbit
 rw [Nat.div_eq_of_lt h,Nat.mod_eq_of_lt h]
 rfl
theorem kbit_tl (x:UInt8) (l:List UInt8) (d:Nat):kbit (x :: l) (d + 8) = kbit l d:=by
 unfold kbit
 rw [Nat.add_div_right _ (by omega),Nat.add_mod_right]
 rfl
theorem cmp_bits:∀ (a b:List UInt8) (d:Nat),a.length = b.length → d < 8 * a.length → Pre a b d → kbit a d = 0 → kbit b d = 1 → Lib.compareBytes a b = -1
 | [],_,d,_,h,_,_,_ => absurd h (by simp)
 | _ :: _,[],_,h,_,_,_,_ => absurd h (by simp)
 | x :: l,y :: m,d,hl,hd,hp,ha,hb => by
  by_cases h8:d < 8
  · rw [kbit_hd x l h8] at ha
    rw [kbit_hd y m h8] at hb
    have:=byte_lt x y d h8 (fun i hi => by have:=hp i hi; rwa [kbit_hd x l (by omega),kbit_hd y m (by omega)] at this) ha hb
    unfold Lib.compareBytes
    rw [if_pos this]
  obtain ⟨e,rfl⟩:∃ e,d = e + 8:=⟨d - 8,by omega⟩
  rw [kbit_tl] at ha hb
  have hxy:=byte_eq x y (fun i hi => by have:=hp i (by omega); rwa [kbit_hd x l hi,kbit_hd y m hi] at this)
  subst hxy
  unfold Lib.compareBytes
  rw [if_neg (UInt8.lt_irrefl x),if_neg (UInt8.lt_irrefl x)]
  refine cmp_bits l m e (by simpa using hl) (by simp at hd; omega) (fun i hi => ?_) ha hb
  have:=hp (i + 8) (by omega)
  rwa [kbit_tl,kbit_tl] at this
theorem cmp_self:∀ a:List UInt8,Lib.compareBytes a a = 0
 | [] => rfl
 | x :: l => by
  unfold Lib.compareBytes
  rw [if_neg (UInt8.lt_irrefl x),if_neg (UInt8.lt_irrefl x)]
  exact cmp_self l
def Rising (L:Ents):Prop:=L.Pairwise fun p q => ¬ Lib.compareBytes q.1 p.1 < 0
end Go.Proofs.YtmeglndnkdgkoaaGreat.Store
namespace Go.Proofs.YtmeglndnkdgkoaaGreat.Path
open Go.RowKit
def keptL (x:UInt8) (keep:Int):UInt8:=if keep ≤ 0 then 255 else if keep < 8 then UInt8.ofNat (x.toNat / 2 ^ (8 - keep.toNat) * 2 ^ (8 - keep.toNat) + (2 ^ (8 - keep.toNat) - 1)) else x
def lastFrom (d:Int):Int → List UInt8 → List UInt8
 | _,[] => []
 | i,x :: l => keptL x (d - 8 * i) :: lastFrom d (i + 1) l
def last (k:List UInt8) (d:Int):List UInt8:=lastFrom d 0 k
def upToL (k:List UInt8) (d:Int) (i:Nat):List UInt8:=(last k d).take i ++ k.drop i
end Go.Proofs.YtmeglndnkdgkoaaGreat.Path
namespace Go.Proofs.YtmeglndnkdgkoaaGreat.Store
open Go.RowKit Go.Proofs.YtmeglndnkdgkoaaGreat.ShaW Go.Proofs.YtmeglndnkdgkoaaGreat.Path
def Tr.ents:Tr → Ents
 | .nil => []
 | .leaf k v => [(k,v)]
 | .node l r => l.ents ++ r.ents
theorem Tr.ents_length:∀ t:Tr,t.ents.length = t.leaves
 | .nil => rfl
 | .leaf _ _ => rfl
 | .node l r => by
  show (l.ents ++ r.ents).length = l.leaves + r.leaves
  rw [List.length_append,l.ents_length,r.ents_length]
def Ltk (p q:List UInt8 × List UInt8):Prop:=Lib.compareBytes p.1 q.1 < 0
theorem Rep.zero_nil {f:View} (hz:f 0 = none) {d:Nat} {t:Tr} (hr:Rep f 0 d t):t = .nil:=by
 cases hr with
 | nil => rfl
 | leaf hn _ => rw [hz] at hn; cases hn
 | node hn _ _ _ _ => rw [hz] at hn; cases hn
theorem Rep.ents {f:View} (hf:Fit f) {h:Int} {d:Nat} {t:Tr} (hr:Rep f h d t) :
 (∀ e ∈ t.ents,e.1.length = 32 ∧ e.2.length ≤ 1024) ∧ (∀ n,f h = some n → ∀ e ∈ t.ents,(n.kind = 2 → Pre e.1 n.key d) ∧ (n.kind ≠ 2 → e.1 = n.key)) ∧ t.ents.Pairwise Ltk:=by
 induction hr with
 | nil => exact ⟨fun e he => (by cases he),fun n hn => (by rw [hf.zero] at hn; cases hn),List.Pairwise.nil⟩
 | @leaf h d n hn hk =>
  obtain ⟨_,ho⟩:=hf.leaf hn (by omega)
  refine ⟨fun e he => ?_,fun m hm e he => ?_,List.pairwise_singleton _ _⟩
  · obtain rfl:=List.mem_singleton.1 he
    exact ⟨ho.key,ho.value⟩
  obtain rfl:=List.mem_singleton.1 he
  rw [hn] at hm
  cases hm
  exact ⟨fun h2 => absurd h2 (by omega),fun _ => rfl⟩
 | @node h d n l r hn hk hd hl hr ihl ihr =>
  obtain ⟨al,bl,cl⟩:=ihl
  obtain ⟨ar,br,cr⟩:=ihr
  obtain ⟨p1,p2⟩:=hf.pre hn hk hd (k:=n.key) (fun _ _ => rfl)
  obtain ⟨q1,q2⟩:=hf.kids hn hk
  have hd1:=(hf.inner hn hk).d1
  have hlt:d < 256:=by omega
  have left:∀ e ∈ l.ents,Pre e.1 n.key d ∧ kbit e.1 d = 0:=fun e he => by
   rcases hl.live with h0 | ⟨y,hy⟩
   · rw [h0] at hl; rw [hl.zero_nil hf.zero] at he; cases he
   have hb:kbit y.key d = 0:=bit_of hlt (by have:=(q1 y hy).2; rw [hd] at this; exact this)
   by_cases h2:y.kind = 2
   · have hp:=(bl y hy e he).1 h2
     exact ⟨(hp.less (Nat.le_succ d)).trans (p1 y hy),(hp d (Nat.lt_succ_self d)).trans hb⟩
   rw [(bl y hy e he).2 h2]; exact ⟨p1 y hy,hb⟩
  have right:∀ e ∈ r.ents,Pre e.1 n.key d ∧ kbit e.1 d = 1:=fun e he => by
   rcases hr.live with h0 | ⟨y,hy⟩
   · rw [h0] at hr; rw [hr.zero_nil hf.zero] at he; cases he
   have hb:kbit y.key d = 1:=bit_of hlt (by have:=(q2 y hy).2; rw [hd] at this; exact this)
   by_cases h2:y.kind = 2
   · have hp:=(br y hy e he).1 h2
     exact ⟨(hp.less (Nat.le_succ d)).trans (p2 y hy),(hp d (Nat.lt_succ_self d)).trans hb⟩
   rw [(br y hy e he).2 h2]; exact ⟨p2 y hy,hb⟩
  refine ⟨fun e he => (List.mem_append.1 he).elim (al e) (ar e),fun m hm e he => ?_,List.pairwise_append.2 ⟨cl,cr,fun a ha b hb => ?_⟩⟩
  · rw [hn] at hm
    cases hm
    exact ⟨fun _ => (List.mem_append.1 he).elim (fun h => (left e h).1) (fun h => (right e h).1),fun h2 => absurd hk h2⟩
  obtain ⟨a1,a2⟩:=left a ha
  obtain ⟨b1,b2⟩:=right b hb
  unfold Ltk
  rw [cmp_bits a.1 b.1 d (by rw [(al a ha).1,(ar b hb).1]) (by rw [(al a ha).1]; omega) (a1.trans b1.symm) a2 b2]
  decide
theorem Rep.slot {f:View} {h:Int} {d:Nat} {t:Tr} (hr:Rep f h d t):∀ e ∈ t.ents,∃ k n,f k = some n ∧ n.key = e.1:=by
 induction hr with
 | nil => exact fun e he => by cases he
 | leaf hn hk =>
  intro e he
  obtain rfl:=List.mem_singleton.1 he
  exact ⟨_,_,hn,rfl⟩
 | node _ _ _ _ _ ihl ihr => exact fun e he => (List.mem_append.1 he).elim (ihl e) (ihr e)
theorem ents_le {σ:SlabSt Nd} (G:Good σ) {h:Int} {d:Nat} {t:Tr} (hr:Rep (sk σ) h d t):t.ents.length ≤ σ.slots.length:=by
 have hs:=hr.slot
 have hp:=(hr.ents G.fit).2.2
 have hch:∃ g:List UInt8 × List UInt8 → Int,∀ e ∈ t.ents,∃ n,sk σ (g e) = some n ∧ n.key = e.1:=by
  refine ⟨fun e => if he:e ∈ t.ents then Classical.choose (hs e he) else 0,fun e he => ?_⟩
  simp only [dif_pos he]
  exact Classical.choose_spec (hs e he)
 obtain ⟨g,hg⟩:=hch
 have hnd:(t.ents.map (fun e => (g e).toNat)).Nodup:=by
  rw [List.Nodup,List.pairwise_map]
  refine hp.imp_of_mem ?_
  intro a b ha hb hlt e
  obtain ⟨n,hn,hnk⟩:=hg a ha
  obtain ⟨m,hm,hmk⟩:=hg b hb
  obtain ⟨x,hx,_⟩:=sk_get hn
  obtain ⟨y,hy,_⟩:=sk_get hm
  obtain ⟨i,hi,_⟩:=SlabSt.get?_some hx
  obtain ⟨j,hj,_⟩:=SlabSt.get?_some hy
  have:g a = g b:=by omega
  rw [this,hm] at hn
  cases hn
  unfold Ltk at hlt
  rw [← hnk, ← hmk,cmp_self] at hlt
  omega
 have hsub:∀ x ∈ t.ents.map (fun e => (g e).toNat),x ∈ List.range' 1 σ.slots.length:=fun x hx => by
  obtain ⟨e,he,rfl⟩:=List.mem_map.1 hx
  obtain ⟨n,hn,_⟩:=hg e he
  obtain ⟨y,hy,_⟩:=sk_get hn
  obtain ⟨i,hi,_,_,hlt⟩:=SlabSt.get?_some hy
  simp only [List.mem_range'_1]
  omega
 have:=nodup_length_le _ _ hnd hsub
 simpa using this
def geK (key:List UInt8) (e:List UInt8 × List UInt8):Bool := !decide (Lib.compareBytes e.1 key < 0)
def ltK (key:List UInt8) (e:List UInt8 × List UInt8):Bool:=decide (Lib.compareBytes e.1 key < 0)
def Tr.from (t:Tr) (key:List UInt8):Ents:=t.ents.filter (geK key)
def Tr.rank (t:Tr) (key:List UInt8):Nat:=(t.ents.filter (ltK key)).length
def nextK:List UInt8 → List UInt8 × Bool
 | [] => ([],false)
 | x :: l => if (nextK l).2 = true then (x :: (nextK l).1,true) else if x = 255 then (0 :: (nextK l).1,false) else ((x + 1) :: (nextK l).1,true)
end Go.Proofs.YtmeglndnkdgkoaaGreat.Store
namespace Go.Proofs.YtmeglndnkdgkoaaGreat
open Go.RowKit
def flatA (l:List (Array Value)):List Value:=l.flatMap Array.toList
section
variable {n : Nat} {l : List (Array Value)} {i j : Nat} {a b : Array Value}
theorem flatA_append (l m:List (Array Value)):flatA (l ++ m) = flatA l ++ flatA m:=by simp [flatA]
theorem flatA_one (a:Array Value):flatA [a] = a.toList:=by simp [flatA]
theorem flatA_length:∀ (l:List (Array Value)),(∀ a ∈ l,a.size = n) → (flatA l).length = l.length * n
 | [],_ => by simp [flatA]
 | a :: l,h => by
  have ih:=flatA_length l (fun x hx => h x (List.mem_cons_of_mem _ hx))
  have h0:=h a (List.mem_cons_self ..)
  rw [show a :: l = [a] ++ l from rfl,flatA_append,flatA_one,List.length_append,ih,Array.length_toList,h0,List.length_append,List.length_singleton,Nat.add_mul]
  omega
theorem flatA_take_length (h:∀ a ∈ l,a.size = n) (hi:i ≤ l.length):(flatA (l.take i)).length = i * n:=by
 rw [flatA_length (n:=n) _ (fun s hs => h s (List.mem_of_mem_take hs)),List.length_take,Nat.min_eq_left hi]
theorem flatA_split (hi:l[i]? = some a):flatA l = flatA (l.take i) ++ (a.toList ++ flatA (l.drop (i + 1))):=by
 obtain ⟨hlt,he⟩:=List.getElem?_eq_some_iff.1 hi
 conv => lhs; rw [← List.take_append_drop i l,List.drop_eq_getElem_cons hlt,he]
 rw [flatA_append,show a :: l.drop (i + 1) = [a] ++ l.drop (i + 1) from rfl,flatA_append,flatA_one]
theorem flatA_at (h:∀ a ∈ l,a.size = n) (hi:l[i]? = some a) (hj:j < n):(flatA l)[i * n + j]? = a[j]?:=by
 have hlt:=(List.getElem?_eq_some_iff.1 hi).1
 have ha:=h a (List.mem_of_getElem? hi)
 have ht:=flatA_take_length h (i:=i) (by omega)
 rw [flatA_split hi,List.getElem?_append_right (by omega),ht,show i * n + j - i * n = j by omega,List.getElem?_append_left (by rw [Array.length_toList]; omega),Array.getElem?_toList]
theorem flatA_part (h:∀ a ∈ l,a.size = n) (hi:l[i]? = some a):((flatA l).drop (i * n)).take n = a.toList:=by
 have hlt:=(List.getElem?_eq_some_iff.1 hi).1
 have ha:=h a (List.mem_of_getElem? hi)
 have ht:=flatA_take_length h (i:=i) (by omega)
 rw [flatA_split hi,List.drop_append_of_le_length (by omega),List.drop_eq_nil_of_le (by omega),List.nil_append,List.take_append_of_le_length (by rw [Array.length_toList]; omega),List.take_of_length_le (by rw [Array.length_toList]; omega)]
theorem flatA_set (h:∀ a ∈ l,a.size = n) (hi:l[i]? = some a) (hj:j < n) (v:Value):(flatA l).set (i * n + j) v = flatA (l.set i (a.setIfInBounds j v)):=by
 have hlt:=(List.getElem?_eq_some_iff.1 hi).1
 have ha:=h a (List.mem_of_getElem? hi)
 have ht:=flatA_take_length h (i:=i) (by omega)
 rw [flatA_split (l:=l.set i (a.setIfInBounds j v)) (i:=i) (a:=a.setIfInBounds j v) (by rw [List.getElem?_set_self hlt]),flatA_split hi,List.set_append_right _ _ (by omega),ht,show i * n + j - i * n = j by omega,
  List.set_append_left _ _ (by rw [Array.length_toList]; omega),Array.toList_setIfInBounds,List.take_set_of_le (Nat.le_refl _),List.drop_set_of_lt (Nat.lt_succ_self _)]
theorem flatA_splice (h:∀ a ∈ l,a.size = n) (hi:i < l.length) (hb:b.size = n):splice (flatA l) (i * n) b.toList = flatA (l.set i b):=by
 have ha:l[i]? = some l[i]:=by simp [hi]
 have hs:=h l[i] (List.getElem_mem hi)
 have ht:=flatA_take_length h (i:=i) (by omega)
 rw [flatA_split (l:=l.set i b) (i:=i) (a:=b) (by rw [List.getElem?_set_self hi]),flatA_split ha,splice]
 have e1:List.take (i * n) (flatA (List.take i l) ++ (l[i].toList ++ flatA (List.drop (i + 1) l))) = flatA (List.take i l):=by
  rw [List.take_append_of_le_length (by omega),List.take_of_length_le (by omega)]
 have e2:List.drop (i * n + b.toList.length) (flatA (List.take i l) ++ (l[i].toList ++ flatA (List.drop (i + 1) l))) = flatA (List.drop (i + 1) l):=by
  rw [List.drop_append,List.drop_eq_nil_of_le (by rw [ht]; omega),List.nil_append,ht,Array.length_toList,hb,show i * n + n - i * n = n by omega,List.drop_append,List.drop_eq_nil_of_le (by rw [Array.length_toList]; omega),List.nil_append,Array.length_toList,hs,Nat.sub_self,List.drop_zero]
 rw [e1,e2,List.take_set_of_le (Nat.le_refl _),List.drop_set_of_lt (Nat.lt_succ_self _),List.append_assoc]
end
end Go.Proofs.YtmeglndnkdgkoaaGreat
namespace Go.Proofs.YtmeglndnkdgkoaaGreat.Store
open Go.RowKit Go.Proofs.YtmeglndnkdgkoaaGreat.ShaW Go.Proofs.YtmeglndnkdgkoaaGreat.Path
structure Sp where
 kind:Nat
 d:Int
 key:List UInt8
 addr:Value
 value:List UInt8
 left:Int
 right:Int
 own:Int
 sides:Int
namespace Sp
def zero:Sp:=⟨0,0,Nd.z32,.slice none 0 0,[],0,0,0,0⟩
def cells (x:Sp):Array Value:=(.int .u8 (x.kind:Nat) :: .int .i64 x.d :: (x.key.map bv ++ [x.addr,.int .i64 x.left,.int .i64 x.right,.int .i64 x.own,.int .i64 x.sides])).toArray
structure Ok (x:Sp):Prop where
 key:x.key.length = 32
 addr:∃ ao len cap,x.addr = .slice ao len cap
 val:x.value.length ≤ 1024
theorem zero_ok:zero.Ok:=⟨rfl,⟨none,0,0,rfl⟩,by decide⟩
variable {x : Sp}
theorem cells_list:x.cells.toList = .int .u8 (x.kind:Nat) :: .int .i64 x.d :: (x.key.map bv ++ [x.addr,.int .i64 x.left,.int .i64 x.right,.int .i64 x.own,.int .i64 x.sides]):=rfl
theorem cells_size (h:x.Ok):x.cells.size = 39:=by simp [cells,h.key]
theorem cells_one (h:x.Ok):∀ v ∈ x.cells.toList,v.oneCell' = true:=by
 obtain ⟨ao,len,cap,ha⟩:=h.addr
 intro v hv
 rw [cells_list] at hv
 simp only [List.mem_cons,List.mem_append,List.mem_map,List.not_mem_nil,or_false] at hv
 rcases hv with rfl | rfl | ⟨b,_,rfl⟩ | rfl | rfl | rfl | rfl | rfl
 · rfl
 · rfl
 · rfl
 · rw [ha]; rfl
 · rfl
 · rfl
 · rfl
 rfl
theorem at_kind:x.cells[0]? = some (.int .u8 (x.kind:Nat)):=rfl
theorem at_d:x.cells[1]? = some (.int .i64 x.d):=rfl
theorem end_of (h:x.Ok) (i:Nat):x.cells[34 + i]? = [x.addr,Value.int .i64 x.left,.int .i64 x.right,.int .i64 x.own,.int .i64 x.sides][i]?:=by
 rw [← Array.getElem?_toList,cells_list,show 34 + i = (32 + i) + 1 + 1 by omega,List.getElem?_cons_succ,List.getElem?_cons_succ,List.getElem?_append_right (by simp [h.key])]
 simp [h.key]
theorem at_left (h:x.Ok):x.cells[35]? = some (.int .i64 x.left):=end_of h 1
theorem at_right (h:x.Ok):x.cells[36]? = some (.int .i64 x.right):=end_of h 2
theorem at_own (h:x.Ok):x.cells[37]? = some (.int .i64 x.own):=end_of h 3
theorem at_sides (h:x.Ok):x.cells[38]? = some (.int .i64 x.sides):=end_of h 4
def entry (x:Sp):Array Value:=(x.key.map bv ++ [x.addr]).toArray
theorem at_entry (h:x.Ok):x.cells.extract 2 (2 + 33) = x.entry:=by
 apply Array.ext'
 simp only [Array.toList_extract,List.extract,cells_list,entry]
 simp only [show 2 + 33 - 2 = 33 by rfl,List.drop_succ_cons,List.drop_zero]
 rw [List.take_append,List.take_of_length_le (by simp [h.key])]
 simp [h.key]
theorem set_own (h:x.Ok) (n:Int):x.cells.setIfInBounds 37 (.int .i64 n) = ({ x with own:=n }:Sp).cells:=by
 apply Array.ext'
 simp only [Array.toList_setIfInBounds,cells_list]
 simp only [show 37 = 35 + 1 + 1 by rfl,List.set_cons_succ]
 rw [List.set_append_right _ _ (by simp [h.key]),List.length_map,h.key]
 rfl
theorem set_sides (h:x.Ok) (n:Int):x.cells.setIfInBounds 38 (.int .i64 n) = ({ x with sides:=n }:Sp).cells:=by
 apply Array.ext'
 simp only [Array.toList_setIfInBounds,cells_list]
 simp only [show 38 = 36 + 1 + 1 by rfl,List.set_cons_succ]
 rw [List.set_append_right _ _ (by simp [h.key]),List.length_map,h.key]
 rfl
end Sp
structure Rs where
 space:Nat
 spots:List Sp
 free:List Nat
def Rs.sp (ρ:Rs) (h:Int):Sp:=if 1 ≤ h then (match ρ.spots[(h - 1).toNat]? with | some x => if x.kind = 0 then Sp.zero else x | none => Sp.zero) else Sp.zero
def Rs.has (ρ:Rs) (h:Int):Bool:=decide ((ρ.sp h).kind ≠ 0)
def Rs.setAt (ρ:Rs) (m:Nat) (x:Sp):Rs := { ρ with spots:=ρ.spots.set m x }
def SpOf (s:Nd × Nat) (x:Sp):Prop :=
 (s.2 = 0 ∧ x = Sp.zero) ∨ (s.2 ≠ 0 ∧ x.kind = s.1.kind ∧ x.left = s.1.left ∧ x.right = s.1.right ∧ x.value = s.1.value ∧ (s.1.kind = 1 → x.key = s.1.key) ∧ (s.1.kind = 2 → x.d = s.1.depth) ∧ x.own = s.1.held ∧ x.own + x.sides = s.2)
structure Lk (σ:SlabSt Nd) (ρ:Rs):Prop where
 space:ρ.space = σ.room
 free:ρ.free = σ.free
 len:ρ.spots.length = σ.slots.length
 slot:∀ (m:Nat) s x,σ.slots[m]? = some s → ρ.spots[m]? = some x → SpOf s x
section
variable {σ : SlabSt Nd} {ρ : Rs} {h : Int}
theorem kind_ne (G:Good σ) {x:Nd × Nat} (hx:σ.get? h = some x):x.1.kind = 1 ∨ x.1.kind = 2:=by
 by_cases e:x.1.kind = 2
 · exact .inr e
 exact .inl (G.fit.leaf (sk_some hx) e).1
theorem Lk.some (L:Lk σ ρ) (G:Good σ) {s:Nd × Nat} (hs:σ.get? h = Option.some s):∃ (m:Nat) (x:Sp),h = (m:Int) + 1 ∧ m < σ.slots.length ∧ σ.slots[m]? = Option.some s ∧ ρ.spots[m]? = Option.some x ∧ s.2 ≠ 0 ∧ ρ.sp h = x ∧ x.kind = s.1.kind ∧ x.kind ≠ 0 ∧ x.left = s.1.left ∧ x.right = s.1.right ∧ x.value = s.1.value ∧ (s.1.kind = 1 → x.key = s.1.key) ∧ (s.1.kind = 2 → x.d = s.1.depth) ∧ x.own = s.1.held ∧ x.own + x.sides = s.2:=by
 obtain ⟨m,rfl,hm,h0,hlt⟩:=SlabSt.get?_some hs
 have hlr:m < ρ.spots.length:=by rw [L.len]; exact hlt
 have hx:ρ.spots[m]? = Option.some ρ.spots[m]:=List.getElem?_eq_getElem hlr
 have hk:s.1.kind ≠ 0:=by rcases kind_ne G hs with e | e <;> omega
 rcases L.slot m s _ hm hx with ⟨e,_⟩ | ⟨_,h1,h2,h3,h4,h5,h6,h7,h8⟩
 · exact absurd e h0
 refine ⟨m,_,rfl,hlt,hm,hx,h0,?_,h1,by omega,h2,h3,h4,h5,h6,h7,h8⟩
 unfold Rs.sp
 rw [if_pos (by omega),show ((m:Int) + 1 - 1).toNat = m by omega,hx]
 simp only
 rw [if_neg (by omega)]
theorem Lk.none (L:Lk σ ρ) (hs:σ.get? h = Option.none):ρ.sp h = Sp.zero:=by
 rcases SlabSt.get?_none hs with h1 | ⟨m,rfl,h2⟩
 · unfold Rs.sp; rw [if_neg (by omega)]
 unfold Rs.sp
 rw [if_pos (by omega),show ((m:Int) + 1 - 1).toNat = m by omega]
 rcases h2 with h2 | ⟨v,hv⟩
 · rw [List.getElem?_eq_none (by rw [L.len]; exact h2)]
 have hlt:=(List.getElem?_eq_some_iff.1 hv).1
 have hlr:m < ρ.spots.length:=by rw [L.len]; exact hlt
 have hx:ρ.spots[m]? = Option.some ρ.spots[m]:=List.getElem?_eq_getElem hlr
 rw [hx]
 rcases L.slot m _ _ hv hx with ⟨_,e⟩ | ⟨e,_⟩
 · simp only [e]; rfl
 exact absurd rfl e
theorem Lk.has (L:Lk σ ρ) (G:Good σ) (h:Int):ρ.has h = Store.has σ h:=by
 unfold Rs.has
 cases hs:σ.get? h with
 | none => rw [L.none hs,has_none hs]; rfl
 | some s =>
  obtain ⟨m,x,_,_,_,_,_,e,_,h0,_⟩:=L.some G hs
  rw [e,has_some hs]
  simpa using h0
theorem Lk.kind (L:Lk σ ρ) (G:Good σ) (h:Int):(ρ.sp h).kind = (nd σ h).kind:=by
 cases hs:σ.get? h with
 | none => rw [L.none hs,nd_none hs]; rfl
 | some s =>
  obtain ⟨m,x,_,_,_,_,_,e,h1,_⟩:=L.some G hs
  rw [e,nd_some hs,h1]
theorem Lk.left (L:Lk σ ρ) (G:Good σ) (h:Int):(ρ.sp h).left = (nd σ h).left:=by
 cases hs:σ.get? h with
 | none => rw [L.none hs,nd_none hs]; rfl
 | some s =>
  obtain ⟨m,x,_,_,_,_,_,e,_,_,h1,_⟩:=L.some G hs
  rw [e,nd_some hs,h1]
theorem Lk.right (L:Lk σ ρ) (G:Good σ) (h:Int):(ρ.sp h).right = (nd σ h).right:=by
 cases hs:σ.get? h with
 | none => rw [L.none hs,nd_none hs]; rfl
 | some s =>
  obtain ⟨m,x,_,_,_,_,_,e,_,_,_,h1,_⟩:=L.some G hs
  rw [e,nd_some hs,h1]
theorem Lk.value (L:Lk σ ρ) (G:Good σ) (h:Int):(ρ.sp h).value = (nd σ h).value:=by
 cases hs:σ.get? h with
 | none => rw [L.none hs,nd_none hs]; rfl
 | some s =>
  obtain ⟨m,x,_,_,_,_,_,e,_,_,_,_,h1,_⟩:=L.some G hs
  rw [e,nd_some hs,h1]
theorem Lk.own (L:Lk σ ρ) (G:Good σ) (h:Int):(ρ.sp h).own = (nd σ h).held:=by
 cases hs:σ.get? h with
 | none => rw [L.none hs,nd_none hs]; rfl
 | some s =>
  obtain ⟨m,x,_,_,_,_,_,e,_,_,_,_,_,_,_,h1,_⟩:=L.some G hs
  rw [e,nd_some hs,h1]
theorem Lk.count (L:Lk σ ρ) (G:Good σ) (h:Int):(ρ.sp h).own + (ρ.sp h).sides = σ.count h:=by
 cases hs:σ.get? h with
 | none => rw [L.none hs]; unfold SlabSt.count; rw [hs]; rfl
 | some s =>
  obtain ⟨m,x,_,_,_,_,_,e,_,_,_,_,_,_,_,_,h1⟩:=L.some G hs
  rw [e,h1]; unfold SlabSt.count; rw [hs]; rfl
theorem Lk.depth (L:Lk σ ρ) (G:Good σ) (h:Int):(if (ρ.sp h).kind = 2 then (ρ.sp h).d else -1) = if (nd σ h).kind = 2 then (nd σ h).depth else -1:=by
 cases hs:σ.get? h with
 | none => rw [L.none hs,nd_none hs]; rfl
 | some s =>
  obtain ⟨m,x,_,_,_,_,_,e,h1,_,_,_,_,_,h2,_,_⟩:=L.some G hs
  rw [e,nd_some hs,h1]
  by_cases hk:s.1.kind = 2
  · rw [if_pos hk,if_pos hk,h2 hk]
  rw [if_neg hk,if_neg hk]
theorem Lk.new (n:Nat):Lk ⟨n,[],[]⟩ ⟨n,[],[]⟩:=⟨rfl,rfl,rfl,fun m s x hs => by simp at hs⟩
theorem Lk.set (L:Lk σ ρ) {m:Nat} {s:Nd × Nat} {x:Sp} (hx:SpOf s x):Lk { σ with slots:=σ.slots.set m s } { ρ with spots:=ρ.spots.set m x }:=by
 refine ⟨L.space,L.free,by simp [L.len],fun j t y ht hy => ?_⟩
 simp only at ht hy
 by_cases e:m = j
 · subst e
   have h1:=(List.getElem?_eq_some_iff.1 ht).1
   rw [List.length_set] at h1
   rw [List.getElem?_set_self h1] at ht
   rw [List.getElem?_set_self (by rw [L.len]; exact h1)] at hy
   cases ht; cases hy
   exact hx
 rw [List.getElem?_set_ne e] at ht hy
 exact L.slot j t y ht hy
theorem Lk.push (L:Lk σ ρ) {s:Nd × Nat} {x:Sp} (hx:SpOf s x):Lk { σ with slots:=σ.slots ++ [s] } { ρ with spots:=ρ.spots ++ [x] }:=by
 refine ⟨L.space,L.free,by simp [L.len],fun j t y ht hy => ?_⟩
 simp only at ht hy
 by_cases e:j < σ.slots.length
 · rw [List.getElem?_append_left e] at ht
   rw [List.getElem?_append_left (by rw [L.len]; exact e)] at hy
   exact L.slot j t y ht hy
 rw [List.getElem?_append_right (by omega)] at ht
 rw [List.getElem?_append_right (by rw [L.len]; omega),L.len] at hy
 obtain ⟨h1,h2⟩:=List.getElem?_eq_some_iff.1 ht
 have h3:j - σ.slots.length = 0:=by simp at h1; omega
 rw [h3] at ht hy
 simp at ht hy
 subst ht hy
 exact hx
end
end Go.Proofs.YtmeglndnkdgkoaaGreat.Store

/- Proved contracts and plain laws of the layers below, in one text. -/
import Derived.Test.YtmeglndnkdgkoaaGreatQb17
set_option maxHeartbeats 3200000
set_option maxRecDepth 100000
set_option linter.unusedVariables false
namespace Go.Proofs.YtmeglndnkdgkoaaGreat.Store
open Go Go.RowKit Go.Proofs.YtmeglndnkdgkoaaGreat Go.Proofs.YtmeglndnkdgkoaaGreat.ShaW Go.Proofs.YtmeglndnkdgkoaaGreat.Path
theorem side_count (d:Nat) (L:Ents):(sideE 0 d L).length + (sideE 1 d L).length = L.length:=by
 unfold sideE
 induction L with
 | nil => rfl
 | cons p L ih =>
  rw [List.filter_cons,List.filter_cons]
  rcases kbit_cases p.1 d with h | h
  · simp only [h]
    simp
    omega
  simp only [h]
  simp
  omega
theorem sides_ok {L:Ents} {k:List UInt8} {d:Nat} (hO:L.Ok k d) (b:Nat):∃ k',Ents.Ok (sideE b d L) k' (d + 1):=by
 match hL:sideE b d L with
 | [] => exact ⟨k,by simp [keysOf],by simp,by simp⟩
 | p :: R =>
  have hm:∀ q ∈ sideE b d L,q ∈ L ∧ kbit q.1 d = b:=fun q hq => ⟨(List.mem_filter.1 hq).1,by simpa using (List.mem_filter.1 hq).2⟩
  have hp:=hm p (by rw [hL]; simp)
  refine ⟨p.1,?_⟩
  rw [← hL]
  exact ⟨(hO.filter _).nodup,(hO.filter _).len,fun q hq => ((hO.pre q (hm q hq).1).trans (hO.pre p hp.1).symm).next (by rw [(hm q hq).2,hp.2])⟩
theorem leaves_tree:∀ (m:Nat),m ≤ 256 → ∀ {L:Ents} {k:List UInt8},L.Ok k (256 - m) → (tree m L).leaves = L.length:=by
 intro m
 induction m with
 | zero =>
  intro _ L k hO
  have hf:=hO.few
  match L,hf with
  | [],_ => rfl
  | [p],_ => rfl
  | _ :: _ :: _,hf => simp at hf
 | succ m ih =>
  intro hm L k hO
  match hL:L,hO with
  | [],_ => rfl
  | [p],_ => rfl
  | p :: q :: R,hO =>
   rw [← hL] at hO ⊢
   obtain ⟨k0,o0⟩:=sides_ok hO 0
   obtain ⟨k1,o1⟩:=sides_ok hO 1
   rw [show 256 - (m + 1) + 1 = 256 - m by omega,show 256 - (m + 1) = 255 - m by omega] at o0 o1
   rw [tree_two (by rw [hL]; simp)]
   show (tree m _).leaves + (tree m _).leaves = _
   rw [ih (by omega) o0,ih (by omega) o1,side_count]
section
variable {σ σ2 : SlabSt Nd} {root : Int} {L : Ents} {key bs : List UInt8} {s : Nat}
theorem Db.count (D:Db σ root L):(tree 256 L).leaves = L.length:=leaves_tree 256 (Nat.le_refl _) (k := []) (Ents.Ok.any D.nodup D.len [])
theorem hold_db (D:Db σ root L) (h0:root ≠ 0) (ht:total σ < 1073741824) :
 (holdS σ root).1 = 0 ∧ Db (holdS σ root).2 root L ∧ (∀ k,sk (holdS σ root).2 k = sk σ k) ∧ (∀ k,held (holdS σ root).2 k = if k = root then held σ root + 1 else held σ k) ∧
  live (holdS σ root).2 = live σ ∧ total (holdS σ root).2 = total σ + 1 ∧ (holdS σ root).2.room = σ.room:=by
 have hh:1 ≤ held σ root:=by
  rcases D.held with h | h
  · exact absurd h h0
  exact h
 obtain ⟨x,hx,_⟩:=held_there hh
 obtain ⟨h1,h2,h3,h4,h5,h6⟩:=holdS_spec D.good.sound hx (by have:=count_le hx; omega)
 refine ⟨h1,⟨D.good.hold root,?_,D.nodup,D.len,.inr (by rw [h3,if_pos rfl]; omega)⟩,h2,h3,h4,h5,h6⟩
 rw [show sk (holdS σ root).2 = sk σ from funext h2]
 exact D.rep
theorem Ow.own {w0 w w':World} {G:Nat → Prop} (h:Ow w0 w s σ G) (hc:Ch (fun k => G k ∧ w0.heap.size ≤ k) w w'):Ow w0 w' s σ G:=by
 obtain ⟨F,h1,h2,h3,h4⟩:=h
 exact ⟨F,h1.keep hc (fun k hk hg => (h4 k hg.1).1 hk),h2,h3.trans hc (fun k hk => .inr hk.2),fun k hk => ⟨(h4 k hk).1,Nat.lt_of_lt_of_le (h4 k hk).2 hc.size⟩⟩
end
def Tr.ents:Tr → Ents
 | .nil => []
 | .leaf k v => [(k,v)]
 | .node l r => l.ents ++ r.ents
theorem Tr.ents_length:∀ t:Tr,t.ents.length = t.leaves
 | .nil => rfl
 | .leaf _ _ => rfl
 | .node l r => by
  show (l.ents ++ r.ents).length = l.leaves + r.leaves
  rw [List.length_append,l.ents_length,r.ents_length]
def Ltk (p q:List UInt8 × List UInt8):Prop:=Lib.compareBytes p.1 q.1 < 0
theorem Rep.zero_nil {f:View} (hz:f 0 = none) {d:Nat} {t:Tr} (hr:Rep f 0 d t):t = .nil:=by
 cases hr with
 | nil => rfl
 | leaf hn _ => rw [hz] at hn; cases hn
 | node hn _ _ _ _ => rw [hz] at hn; cases hn
theorem Rep.ents {f:View} (hf:Fit f) {h:Int} {d:Nat} {t:Tr} (hr:Rep f h d t) :
 (∀ e ∈ t.ents,e.1.length = 32 ∧ e.2.length ≤ 1024) ∧ (∀ n,f h = some n → ∀ e ∈ t.ents,(n.kind = 2 → Pre e.1 n.key d) ∧ (n.kind ≠ 2 → e.1 = n.key)) ∧ t.ents.Pairwise Ltk:=by
 induction hr with
 | nil => exact ⟨fun e he => (by cases he),fun n hn => (by rw [hf.zero] at hn; cases hn),List.Pairwise.nil⟩
 | @leaf h d n hn hk =>
  obtain ⟨_,ho⟩:=hf.leaf hn (by omega)
  refine ⟨fun e he => ?_,fun m hm e he => ?_,List.pairwise_singleton _ _⟩
  · obtain rfl:=List.mem_singleton.1 he
    exact ⟨ho.key,ho.value⟩
  obtain rfl:=List.mem_singleton.1 he
  rw [hn] at hm
  cases hm
  exact ⟨fun h2 => absurd h2 (by omega),fun _ => rfl⟩
 | @node h d n l r hn hk hd hl hr ihl ihr =>
  obtain ⟨al,bl,cl⟩:=ihl
  obtain ⟨ar,br,cr⟩:=ihr
  obtain ⟨p1,p2⟩:=hf.pre hn hk hd (k:=n.key) (fun _ _ => rfl)
  obtain ⟨q1,q2⟩:=hf.kids hn hk
  have hd1:=(hf.inner hn hk).d1
  have hlt:d < 256:=by omega
  have left:∀ e ∈ l.ents,Pre e.1 n.key d ∧ kbit e.1 d = 0:=fun e he => by
   rcases hl.live with h0 | ⟨y,hy⟩
   · rw [h0] at hl; rw [hl.zero_nil hf.zero] at he; cases he
   have hb:kbit y.key d = 0:=bit_of hlt (by have:=(q1 y hy).2; rw [hd] at this; exact this)
   by_cases h2:y.kind = 2
   · have hp:=(bl y hy e he).1 h2
     exact ⟨(hp.less (Nat.le_succ d)).trans (p1 y hy),(hp d (Nat.lt_succ_self d)).trans hb⟩
   rw [(bl y hy e he).2 h2]; exact ⟨p1 y hy,hb⟩
  have right:∀ e ∈ r.ents,Pre e.1 n.key d ∧ kbit e.1 d = 1:=fun e he => by
   rcases hr.live with h0 | ⟨y,hy⟩
   · rw [h0] at hr; rw [hr.zero_nil hf.zero] at he; cases he
   have hb:kbit y.key d = 1:=bit_of hlt (by have:=(q2 y hy).2; rw [hd] at this; exact this)
   by_cases h2:y.kind = 2
   · have hp:=(br y hy e he).1 h2
     exact ⟨(hp.less (Nat.le_succ d)).trans (p2 y hy),(hp d (Nat.lt_succ_self d)).trans hb⟩
   rw [(br y hy e he).2 h2]; exact ⟨p2 y hy,hb⟩
  refine ⟨fun e he => (List.mem_append.1 he).elim (al e) (ar e),fun m hm e he => ?_,List.pairwise_append.2 ⟨cl,cr,fun a ha b hb => ?_⟩⟩
  · rw [hn] at hm
    cases hm
    exact ⟨fun _ => (List.mem_append.1 he).elim (fun h => (left e h).1) (fun h => (right e h).1),fun h2 => absurd hk h2⟩
  obtain ⟨a1,a2⟩:=left a ha
  obtain ⟨b1,b2⟩:=right b hb
  unfold Ltk
  rw [cmp_bits a.1 b.1 d (by rw [(al a ha).1,(ar b hb).1]) (by rw [(al a ha).1]; omega) (a1.trans b1.symm) a2 b2]
  decide
theorem Rep.sides {f:View} (hf:Fit f) {h:Int} {d:Nat} {n:Nd} {l r:Tr} (hn:f h = some n) (hk:n.kind = 2) (hd:n.depth = (d:Nat)) (hl:Rep f n.left (d + 1) l) (hr:Rep f n.right (d + 1) r) :
 (∀ e ∈ l.ents,Pre e.1 n.key d ∧ kbit e.1 d = 0) ∧ (∀ e ∈ r.ents,Pre e.1 n.key d ∧ kbit e.1 d = 1):=by
 obtain ⟨_,bl,_⟩:=hl.ents hf
 obtain ⟨_,br,_⟩:=hr.ents hf
 obtain ⟨p1,p2⟩:=hf.pre hn hk hd (k:=n.key) (fun _ _ => rfl)
 obtain ⟨q1,q2⟩:=hf.kids hn hk
 have hd1:=(hf.inner hn hk).d1
 have hlt:d < 256:=by omega
 refine ⟨fun e he => ?_,fun e he => ?_⟩
 · rcases hl.live with h0 | ⟨y,hy⟩
   · rw [h0] at hl; rw [hl.zero_nil hf.zero] at he; cases he
   have hb:kbit y.key d = 0:=bit_of hlt (by have:=(q1 y hy).2; rw [hd] at this; exact this)
   by_cases h2:y.kind = 2
   · have hp:=(bl y hy e he).1 h2
     exact ⟨(hp.less (Nat.le_succ d)).trans (p1 y hy),(hp d (Nat.lt_succ_self d)).trans hb⟩
   rw [(bl y hy e he).2 h2]; exact ⟨p1 y hy,hb⟩
 rcases hr.live with h0 | ⟨y,hy⟩
 · rw [h0] at hr; rw [hr.zero_nil hf.zero] at he; cases he
 have hb:kbit y.key d = 1:=bit_of hlt (by have:=(q2 y hy).2; rw [hd] at this; exact this)
 by_cases h2:y.kind = 2
 · have hp:=(br y hy e he).1 h2
   exact ⟨(hp.less (Nat.le_succ d)).trans (p2 y hy),(hp d (Nat.lt_succ_self d)).trans hb⟩
 rw [(br y hy e he).2 h2]; exact ⟨p2 y hy,hb⟩
theorem Rep.slot {f:View} {h:Int} {d:Nat} {t:Tr} (hr:Rep f h d t):∀ e ∈ t.ents,∃ k n,f k = some n ∧ n.key = e.1:=by
 induction hr with
 | nil => exact fun e he => by cases he
 | leaf hn hk =>
  intro e he
  obtain rfl:=List.mem_singleton.1 he
  exact ⟨_,_,hn,rfl⟩
 | node _ _ _ _ _ ihl ihr => exact fun e he => (List.mem_append.1 he).elim (ihl e) (ihr e)
theorem ents_le {σ:SlabSt Nd} (G:Good σ) {h:Int} {d:Nat} {t:Tr} (hr:Rep (sk σ) h d t):t.ents.length ≤ σ.slots.length:=by
 have hs:=hr.slot
 have hp:=(hr.ents G.fit).2.2
 have hch:∃ g:List UInt8 × List UInt8 → Int,∀ e ∈ t.ents,∃ n,sk σ (g e) = some n ∧ n.key = e.1:=by
  refine ⟨fun e => if he:e ∈ t.ents then Classical.choose (hs e he) else 0,fun e he => ?_⟩
  simp only [dif_pos he]
  exact Classical.choose_spec (hs e he)
 obtain ⟨g,hg⟩:=hch
 have hnd:(t.ents.map (fun e => (g e).toNat)).Nodup:=by
  rw [List.Nodup,List.pairwise_map]
  refine hp.imp_of_mem ?_
  intro a b ha hb hlt e
  obtain ⟨n,hn,hnk⟩:=hg a ha
  obtain ⟨m,hm,hmk⟩:=hg b hb
  obtain ⟨x,hx,_⟩:=sk_get hn
  obtain ⟨y,hy,_⟩:=sk_get hm
  obtain ⟨i,hi,_⟩:=SlabSt.get?_some hx
  obtain ⟨j,hj,_⟩:=SlabSt.get?_some hy
  have:g a = g b:=by omega
  rw [this,hm] at hn
  cases hn
  unfold Ltk at hlt
  rw [← hnk, ← hmk,cmp_self] at hlt
  omega
 have hsub:∀ x ∈ t.ents.map (fun e => (g e).toNat),x ∈ List.range' 1 σ.slots.length:=fun x hx => by
  obtain ⟨e,he,rfl⟩:=List.mem_map.1 hx
  obtain ⟨n,hn,_⟩:=hg e he
  obtain ⟨y,hy,_⟩:=sk_get hn
  obtain ⟨i,hi,_,_,hlt⟩:=SlabSt.get?_some hy
  simp only [List.mem_range'_1]
  omega
 have:=nodup_length_le _ _ hnd hsub
 simpa using this
theorem sides_perm (d:Nat):∀ L:Ents,(sideE 0 d L ++ sideE 1 d L).Perm L
 | [] => .refl _
 | p :: L => by
  have ih:=sides_perm d L
  unfold sideE at ih ⊢
  rw [List.filter_cons,List.filter_cons]
  rcases kbit_cases p.1 d with h | h
  · simp only [h]
    exact ih.cons p
  simp only [h]
  exact List.perm_middle.trans (ih.cons p)
theorem ents_tree:∀ m,m ≤ 256 → ∀ {L:Ents} {k:List UInt8},L.Ok k (256 - m) → (tree m L).ents.Perm L:=by
 intro m
 induction m with
 | zero =>
  intro _ L k hO
  match L,hO.few with
  | [],_ => exact .refl _
  | [p],_ => exact .refl _
  | _ :: _ :: _,hf => simp at hf
 | succ m ih =>
  intro hm L k hO
  by_cases h2:2 ≤ L.length
  · rw [tree_two h2]
    obtain ⟨k0,o0⟩:=sides_ok hO 0
    obtain ⟨k1,o1⟩:=sides_ok hO 1
    rw [show 256 - (m + 1) + 1 = 256 - m by omega,show 256 - (m + 1) = 255 - m by omega] at o0 o1
    exact ((ih (by omega) o0).append (ih (by omega) o1)).trans (sides_perm _ L)
  match L,h2 with
  | [],_ => exact .refl _
  | [p],_ => exact .refl _
  | _ :: _ :: _,h2 => exact absurd (by simp) h2
theorem Db.ents {σ:SlabSt Nd} {root:Int} {L:Ents} (D:Db σ root L):(tree 256 L).ents.Perm L:=ents_tree 256 (Nat.le_refl _) (k := []) (Ents.Ok.any D.nodup D.len [])
def geK (key:List UInt8) (e:List UInt8 × List UInt8):Bool := !decide (Lib.compareBytes e.1 key < 0)
def Tr.from (t:Tr) (key:List UInt8):Ents:=t.ents.filter (geK key)
end Go.Proofs.YtmeglndnkdgkoaaGreat.Store
namespace Go.Proofs.YtmeglndnkdgkoaaGreat
open Go Go.RowKit
def flatA (l:List (Array Value)):List Value:=l.flatMap Array.toList
section
variable {n : Nat} {l : List (Array Value)} {i j : Nat} {a b : Array Value}
theorem flatA_append (l m:List (Array Value)):flatA (l ++ m) = flatA l ++ flatA m:=by simp [flatA]
theorem flatA_one (a:Array Value):flatA [a] = a.toList:=by simp [flatA]
theorem flatA_length:∀ (l:List (Array Value)),(∀ a ∈ l,a.size = n) → (flatA l).length = l.length * n
 | [],_ => by simp [flatA]
 | a :: l,h => by
  have ih:=flatA_length l (fun x hx => h x (List.mem_cons_of_mem _ hx))
  have h0:=h a (List.mem_cons_self ..)
  rw [show a :: l = [a] ++ l from rfl,flatA_append,flatA_one,List.length_append,ih,Array.length_toList,h0,List.length_append,List.length_singleton,Nat.add_mul]
  omega
theorem flatA_take_length (h:∀ a ∈ l,a.size = n) (hi:i ≤ l.length):(flatA (l.take i)).length = i * n:=by
 rw [flatA_length (n:=n) _ (fun s hs => h s (List.mem_of_mem_take hs)),List.length_take,Nat.min_eq_left hi]
theorem flatA_split (hi:l[i]? = some a):flatA l = flatA (l.take i) ++ (a.toList ++ flatA (l.drop (i + 1))):=by
 obtain ⟨hlt,he⟩:=List.getElem?_eq_some_iff.1 hi
 conv => lhs; rw [← List.take_append_drop i l,List.drop_eq_getElem_cons hlt,he]
 rw [flatA_append,show a :: l.drop (i + 1) = [a] ++ l.drop (i + 1) from rfl,flatA_append,flatA_one]
theorem flatA_at (h:∀ a ∈ l,a.size = n) (hi:l[i]? = some a) (hj:j < n):(flatA l)[i * n + j]? = a[j]?:=by
 have hlt:=(List.getElem?_eq_some_iff.1 hi).1
 have ha:=h a (List.mem_of_getElem? hi)
 have ht:=flatA_take_length h (i:=i) (by omega)
 rw [flatA_split hi,List.getElem?_append_right (by omega),ht,show i * n + j - i * n = j by omega,List.getElem?_append_left (by rw [Array.length_toList]; omega),Array.getElem?_toList]
theorem flatA_part (h:∀ a ∈ l,a.size = n) (hi:l[i]? = some a):((flatA l).drop (i * n)).take n = a.toList:=by
 have hlt:=(List.getElem?_eq_some_iff.1 hi).1
 have ha:=h a (List.mem_of_getElem? hi)
 have ht:=flatA_take_length h (i:=i) (by omega)
 rw [flatA_split hi,List.drop_append_of_le_length (by omega),List.drop_eq_nil_of_le (by omega),List.nil_append,List.take_append_of_le_length (by rw [Array.length_toList]; omega),List.take_of_length_le (by rw [Array.length_toList]; omega)]
theorem flatA_set (h:∀ a ∈ l,a.size = n) (hi:l[i]? = some a) (hj:j < n) (v:Value):(flatA l).set (i * n + j) v = flatA (l.set i (a.setIfInBounds j v)):=by
 have hlt:=(List.getElem?_eq_some_iff.1 hi).1
 have ha:=h a (List.mem_of_getElem? hi)
 have ht:=flatA_take_length h (i:=i) (by omega)
 rw [flatA_split (l:=l.set i (a.setIfInBounds j v)) (i:=i) (a:=a.setIfInBounds j v) (by rw [List.getElem?_set_self hlt]),flatA_split hi,List.set_append_right _ _ (by omega),ht,show i * n + j - i * n = j by omega,
  List.set_append_left _ _ (by rw [Array.length_toList]; omega),Array.toList_setIfInBounds,List.take_set_of_le (Nat.le_refl _),List.drop_set_of_lt (Nat.lt_succ_self _)]
theorem flatA_splice (h:∀ a ∈ l,a.size = n) (hi:i < l.length) (hb:b.size = n):splice (flatA l) (i * n) b.toList = flatA (l.set i b):=by
 have ha:l[i]? = some l[i]:=by simp [hi]
 have hs:=h l[i] (List.getElem_mem hi)
 have ht:=flatA_take_length h (i:=i) (by omega)
 rw [flatA_split (l:=l.set i b) (i:=i) (a:=b) (by rw [List.getElem?_set_self hi]),flatA_split ha,splice]
 have e1:List.take (i * n) (flatA (List.take i l) ++ (l[i].toList ++ flatA (List.drop (i + 1) l))) = flatA (List.take i l):=by
  rw [List.take_append_of_le_length (by omega),List.take_of_length_le (by omega)]
 have e2:List.drop (i * n + b.toList.length) (flatA (List.take i l) ++ (l[i].toList ++ flatA (List.drop (i + 1) l))) = flatA (List.drop (i + 1) l):=by
  rw [List.drop_append,List.drop_eq_nil_of_le (by rw [ht]; omega),List.nil_append,ht,Array.length_toList,hb,show i * n + n - i * n = n by omega,List.drop_append,List.drop_eq_nil_of_le (by rw [Array.length_toList]; omega),List.nil_append,Array.length_toList,hs,Nat.sub_self,List.drop_zero]
 rw [e1,e2,List.take_set_of_le (Nat.le_refl _),List.drop_set_of_lt (Nat.lt_succ_self _),List.append_assoc]
end
end Go.Proofs.YtmeglndnkdgkoaaGreat
namespace Go.Proofs.YtmeglndnkdgkoaaGreat.Store
open Go Go.RowKit Go.Proofs.YtmeglndnkdgkoaaGreat Go.Proofs.YtmeglndnkdgkoaaGreat.ShaW Go.Proofs.YtmeglndnkdgkoaaGreat.Path
structure Sp where
 kind:Nat
 d:Int
 key:List UInt8
 addr:Value
 value:List UInt8
 left:Int
 right:Int
 own:Int
 sides:Int
namespace Sp
def zero:Sp:=⟨0,0,Nd.z32,.slice none 0 0,[],0,0,0,0⟩
def cells (x:Sp):Array Value:=(.int .u8 (x.kind:Nat) :: .int .i64 x.d :: (x.key.map bv ++ [x.addr,.int .i64 x.left,.int .i64 x.right,.int .i64 x.own,.int .i64 x.sides])).toArray
structure Ok (x:Sp):Prop where
 key:x.key.length = 32
 addr:∃ ao len cap,x.addr = .slice ao len cap
 val:x.value.length ≤ 1024
theorem zero_ok:zero.Ok:=⟨rfl,⟨none,0,0,rfl⟩,by decide⟩
variable {x : Sp}
theorem cells_list:x.cells.toList = .int .u8 (x.kind:Nat) :: .int .i64 x.d :: (x.key.map bv ++ [x.addr,.int .i64 x.left,.int .i64 x.right,.int .i64 x.own,.int .i64 x.sides]):=rfl
theorem cells_size (h:x.Ok):x.cells.size = 39:=by simp [cells,h.key]
theorem cells_one (h:x.Ok):∀ v ∈ x.cells.toList,v.oneCell' = true:=by
 obtain ⟨ao,len,cap,ha⟩:=h.addr
 intro v hv
 rw [cells_list] at hv
 simp only [List.mem_cons,List.mem_append,List.mem_map,List.not_mem_nil,or_false] at hv
 rcases hv with rfl | rfl | ⟨b,_,rfl⟩ | rfl | rfl | rfl | rfl | rfl
 · rfl
 · rfl
 · rfl
 · rw [ha]; rfl
 · rfl
 · rfl
 · rfl
 rfl
theorem at_kind:x.cells[0]? = some (.int .u8 (x.kind:Nat)):=rfl
theorem at_d:x.cells[1]? = some (.int .i64 x.d):=rfl
theorem end_of (h:x.Ok) (i:Nat):x.cells[34 + i]? = [x.addr,Value.int .i64 x.left,.int .i64 x.right,.int .i64 x.own,.int .i64 x.sides][i]?:=by
 rw [← Array.getElem?_toList,cells_list,show 34 + i = (32 + i) + 1 + 1 by omega,List.getElem?_cons_succ,List.getElem?_cons_succ,List.getElem?_append_right (by simp [h.key])]
 simp [h.key]
theorem at_addr (h:x.Ok):x.cells[34]? = some x.addr:=end_of h 0
theorem at_left (h:x.Ok):x.cells[35]? = some (.int .i64 x.left):=end_of h 1
theorem at_right (h:x.Ok):x.cells[36]? = some (.int .i64 x.right):=end_of h 2
theorem at_own (h:x.Ok):x.cells[37]? = some (.int .i64 x.own):=end_of h 3
theorem at_sides (h:x.Ok):x.cells[38]? = some (.int .i64 x.sides):=end_of h 4
theorem at_key (h:x.Ok):x.cells.extract 2 (2 + 32) = brow x.key:=by
 apply Array.ext'
 simp only [Array.toList_extract,List.extract,cells_list,brow]
 simp only [show 2 + 32 - 2 = 32 by rfl,List.drop_succ_cons,List.drop_zero]
 rw [List.take_append_of_le_length (by simp [h.key]),List.take_of_length_le (by simp [h.key])]
def entry (x:Sp):Array Value:=(x.key.map bv ++ [x.addr]).toArray
theorem at_entry (h:x.Ok):x.cells.extract 2 (2 + 33) = x.entry:=by
 apply Array.ext'
 simp only [Array.toList_extract,List.extract,cells_list,entry]
 simp only [show 2 + 33 - 2 = 33 by rfl,List.drop_succ_cons,List.drop_zero]
 rw [List.take_append,List.take_of_length_le (by simp [h.key])]
 simp [h.key]
theorem set_own (h:x.Ok) (n:Int):x.cells.setIfInBounds 37 (.int .i64 n) = ({ x with own:=n }:Sp).cells:=by
 apply Array.ext'
 simp only [Array.toList_setIfInBounds,cells_list]
 simp only [show 37 = 35 + 1 + 1 by rfl,List.set_cons_succ]
 rw [List.set_append_right _ _ (by simp [h.key]),List.length_map,h.key]
 rfl
theorem set_sides (h:x.Ok) (n:Int):x.cells.setIfInBounds 38 (.int .i64 n) = ({ x with sides:=n }:Sp).cells:=by
 apply Array.ext'
 simp only [Array.toList_setIfInBounds,cells_list]
 simp only [show 38 = 36 + 1 + 1 by rfl,List.set_cons_succ]
 rw [List.set_append_right _ _ (by simp [h.key]),List.length_map,h.key]
 rfl
end Sp
structure Rs where
 space:Nat
 spots:List Sp
 free:List Nat
def Rs.sp (ρ:Rs) (h:Int):Sp:=if 1 ≤ h then (match ρ.spots[(h - 1).toNat]? with | some x => if x.kind = 0 then Sp.zero else x | none => Sp.zero) else Sp.zero
def Rs.has (ρ:Rs) (h:Int):Bool:=decide ((ρ.sp h).kind ≠ 0)
def Rs.setAt (ρ:Rs) (m:Nat) (x:Sp):Rs := { ρ with spots:=ρ.spots.set m x }
def SpOf (s:Nd × Nat) (x:Sp):Prop :=
 (s.2 = 0 ∧ x = Sp.zero) ∨ (s.2 ≠ 0 ∧ x.kind = s.1.kind ∧ x.left = s.1.left ∧ x.right = s.1.right ∧ x.value = s.1.value ∧ (s.1.kind = 1 → x.key = s.1.key) ∧ (s.1.kind = 2 → x.d = s.1.depth) ∧ x.own = s.1.held ∧ x.own + x.sides = s.2)
structure Lk (σ:SlabSt Nd) (ρ:Rs):Prop where
 space:ρ.space = σ.room
 free:ρ.free = σ.free
 len:ρ.spots.length = σ.slots.length
 slot:∀ (m:Nat) s x,σ.slots[m]? = some s → ρ.spots[m]? = some x → SpOf s x
section
variable {σ : SlabSt Nd} {ρ : Rs} {h : Int}
theorem kind_ne (G:Good σ) {x:Nd × Nat} (hx:σ.get? h = some x):x.1.kind = 1 ∨ x.1.kind = 2:=by
 by_cases e:x.1.kind = 2
 · exact .inr e
 exact .inl (G.fit.leaf (sk_some hx) e).1
theorem Lk.some (L:Lk σ ρ) (G:Good σ) {s:Nd × Nat} (hs:σ.get? h = Option.some s):∃ (m:Nat) (x:Sp),h = (m:Int) + 1 ∧ m < σ.slots.length ∧ σ.slots[m]? = Option.some s ∧ ρ.spots[m]? = Option.some x ∧ s.2 ≠ 0 ∧ ρ.sp h = x ∧ x.kind = s.1.kind ∧ x.kind ≠ 0 ∧ x.left = s.1.left ∧ x.right = s.1.right ∧ x.value = s.1.value ∧ (s.1.kind = 1 → x.key = s.1.key) ∧ (s.1.kind = 2 → x.d = s.1.depth) ∧ x.own = s.1.held ∧ x.own + x.sides = s.2:=by
 obtain ⟨m,rfl,hm,h0,hlt⟩:=SlabSt.get?_some hs
 have hlr:m < ρ.spots.length:=by rw [L.len]; exact hlt
 have hx:ρ.spots[m]? = Option.some ρ.spots[m]:=List.getElem?_eq_getElem hlr
 have hk:s.1.kind ≠ 0:=by rcases kind_ne G hs with e | e <;> omega
 rcases L.slot m s _ hm hx with ⟨e,_⟩ | ⟨_,h1,h2,h3,h4,h5,h6,h7,h8⟩
 · exact absurd e h0
 refine ⟨m,_,rfl,hlt,hm,hx,h0,?_,h1,by omega,h2,h3,h4,h5,h6,h7,h8⟩
 unfold Rs.sp
 rw [if_pos (by omega),show ((m:Int) + 1 - 1).toNat = m by omega,hx]
 simp only
 rw [if_neg (by omega)]
theorem Lk.none (L:Lk σ ρ) (hs:σ.get? h = Option.none):ρ.sp h = Sp.zero:=by
 rcases SlabSt.get?_none hs with h1 | ⟨m,rfl,h2⟩
 · unfold Rs.sp; rw [if_neg (by omega)]
 unfold Rs.sp
 rw [if_pos (by omega),show ((m:Int) + 1 - 1).toNat = m by omega]
 rcases h2 with h2 | ⟨v,hv⟩
 · rw [List.getElem?_eq_none (by rw [L.len]; exact h2)]
 have hlt:=(List.getElem?_eq_some_iff.1 hv).1
 have hlr:m < ρ.spots.length:=by rw [L.len]; exact hlt
 have hx:ρ.spots[m]? = Option.some ρ.spots[m]:=List.getElem?_eq_getElem hlr
 rw [hx]
 rcases L.slot m _ _ hv hx with ⟨_,e⟩ | ⟨e,_⟩
 · simp only [e]; rfl
 exact absurd rfl e
theorem Lk.has (L:Lk σ ρ) (G:Good σ) (h:Int):ρ.has h = Store.has σ h:=by
 unfold Rs.has
 cases hs:σ.get? h with
 | none => rw [L.none hs,has_none hs]; rfl
 | some s =>
  obtain ⟨m,x,_,_,_,_,_,e,_,h0,_⟩:=L.some G hs
  rw [e,has_some hs]
  simpa using h0
theorem Lk.kind (L:Lk σ ρ) (G:Good σ) (h:Int):(ρ.sp h).kind = (nd σ h).kind:=by
 cases hs:σ.get? h with
 | none => rw [L.none hs,nd_none hs]; rfl
 | some s =>
  obtain ⟨m,x,_,_,_,_,_,e,h1,_⟩:=L.some G hs
  rw [e,nd_some hs,h1]
theorem Lk.left (L:Lk σ ρ) (G:Good σ) (h:Int):(ρ.sp h).left = (nd σ h).left:=by
 cases hs:σ.get? h with
 | none => rw [L.none hs,nd_none hs]; rfl
 | some s =>
  obtain ⟨m,x,_,_,_,_,_,e,_,_,h1,_⟩:=L.some G hs
  rw [e,nd_some hs,h1]
theorem Lk.right (L:Lk σ ρ) (G:Good σ) (h:Int):(ρ.sp h).right = (nd σ h).right:=by
 cases hs:σ.get? h with
 | none => rw [L.none hs,nd_none hs]; rfl
 | some s =>
  obtain ⟨m,x,_,_,_,_,_,e,_,_,_,h1,_⟩:=L.some G hs
  rw [e,nd_some hs,h1]
theorem Lk.value (L:Lk σ ρ) (G:Good σ) (h:Int):(ρ.sp h).value = (nd σ h).value:=by
 cases hs:σ.get? h with
 | none => rw [L.none hs,nd_none hs]; rfl
 | some s =>
  obtain ⟨m,x,_,_,_,_,_,e,_,_,_,_,h1,_⟩:=L.some G hs
  rw [e,nd_some hs,h1]
theorem Lk.own (L:Lk σ ρ) (G:Good σ) (h:Int):(ρ.sp h).own = (nd σ h).held:=by
 cases hs:σ.get? h with
 | none => rw [L.none hs,nd_none hs]; rfl
 | some s =>
  obtain ⟨m,x,_,_,_,_,_,e,_,_,_,_,_,_,_,h1,_⟩:=L.some G hs
  rw [e,nd_some hs,h1]
theorem Lk.count (L:Lk σ ρ) (G:Good σ) (h:Int):(ρ.sp h).own + (ρ.sp h).sides = σ.count h:=by
 cases hs:σ.get? h with
 | none => rw [L.none hs]; unfold SlabSt.count; rw [hs]; rfl
 | some s =>
  obtain ⟨m,x,_,_,_,_,_,e,_,_,_,_,_,_,_,_,h1⟩:=L.some G hs
  rw [e,h1]; unfold SlabSt.count; rw [hs]; rfl
theorem Lk.depth (L:Lk σ ρ) (G:Good σ) (h:Int):(if (ρ.sp h).kind = 2 then (ρ.sp h).d else -1) = if (nd σ h).kind = 2 then (nd σ h).depth else -1:=by
 cases hs:σ.get? h with
 | none => rw [L.none hs,nd_none hs]; rfl
 | some s =>
  obtain ⟨m,x,_,_,_,_,_,e,h1,_,_,_,_,_,h2,_,_⟩:=L.some G hs
  rw [e,nd_some hs,h1]
  by_cases hk:s.1.kind = 2
  · rw [if_pos hk,if_pos hk,h2 hk]
  rw [if_neg hk,if_neg hk]
theorem Lk.new (n:Nat):Lk ⟨n,[],[]⟩ ⟨n,[],[]⟩:=⟨rfl,rfl,rfl,fun m s x hs => by simp at hs⟩
theorem Lk.set (L:Lk σ ρ) {m:Nat} {s:Nd × Nat} {x:Sp} (hx:SpOf s x):Lk { σ with slots:=σ.slots.set m s } { ρ with spots:=ρ.spots.set m x }:=by
 refine ⟨L.space,L.free,by simp [L.len],fun j t y ht hy => ?_⟩
 simp only at ht hy
 by_cases e:m = j
 · subst e
   have h1:=(List.getElem?_eq_some_iff.1 ht).1
   rw [List.length_set] at h1
   rw [List.getElem?_set_self h1] at ht
   rw [List.getElem?_set_self (by rw [L.len]; exact h1)] at hy
   cases ht; cases hy
   exact hx
 rw [List.getElem?_set_ne e] at ht hy
 exact L.slot j t y ht hy
theorem Lk.push (L:Lk σ ρ) {s:Nd × Nat} {x:Sp} (hx:SpOf s x):Lk { σ with slots:=σ.slots ++ [s] } { ρ with spots:=ρ.spots ++ [x] }:=by
 refine ⟨L.space,L.free,by simp [L.len],fun j t y ht hy => ?_⟩
 simp only at ht hy
 by_cases e:j < σ.slots.length
 · rw [List.getElem?_append_left e] at ht
   rw [List.getElem?_append_left (by rw [L.len]; exact e)] at hy
   exact L.slot j t y ht hy
 rw [List.getElem?_append_right (by omega)] at ht
 rw [List.getElem?_append_right (by rw [L.len]; omega),L.len] at hy
 obtain ⟨h1,h2⟩:=List.getElem?_eq_some_iff.1 ht
 have h3:j - σ.slots.length = 0:=by simp at h1; omega
 rw [h3] at ht hy
 simp at ht hy
 subst ht hy
 exact hx
end
structure Rs.Fine (ρ:Rs):Prop where
 space:1 ≤ ρ.space ∧ ρ.space ≤ 65536
 len:ρ.spots.length ≤ ρ.space
 free:∀ n ∈ ρ.free,1 ≤ n ∧ n ≤ ρ.spots.length
 flen:ρ.free.length ≤ ρ.spots.length
 nums:∀ x ∈ ρ.spots,x.Ok ∧ (0 ≤ x.own ∧ x.own ≤ 2147483648) ∧ (0 ≤ x.sides ∧ x.sides ≤ 2147483648)
def RAt (w:World) (b:Nat) (F:Nat → Prop) (ρ:Rs):Prop :=
 ρ.Fine ∧ ∃ vs vf,w.heap[b]? = some (.cells #[.bool true,.int .i64 (ρ.space:Nat),vs,vf] 126 (0,0)) ∧
  w.ownsRow 0 198 39 vs ρ.spots.length (flatA (ρ.spots.map Sp.cells)) ∧ w.ownsRow 0 3 1 vf ρ.free.length (ints ρ.free) ∧
  (∀ x ∈ ρ.spots,Bytes w x.addr x.value ∧ ∀ k,x.addr.ownBlock = some k → F k ∧ k ≠ b ∧ vs.ownBlock ≠ some k ∧ vf.ownBlock ≠ some k) ∧
  F b ∧ (∀ k,vs.ownBlock = some k → F k ∧ k ≠ b) ∧ (∀ k,vf.ownBlock = some k → F k ∧ k ≠ b ∧ vs.ownBlock ≠ some k) ∧ (∀ k,F k → k < w.heap.size)
def RMoved (w w':World) (b:Nat) (F:Nat → Prop) (ρ:Rs):Prop := ∃ F',RAt w' b F' ρ ∧ Ch F w w' ∧ ∀ k,F' k → F k ∨ w.heap.size ≤ k
section
variable {w w' : World} {b : Nat} {F : Nat → Prop} {ρ : Rs}
theorem RAt.keep {C:Nat → Prop} (h:RAt w b F ρ) (hc:Ch C w w') (hd:∀ k,F k → ¬ C k):RAt w' b F ρ:=by
 obtain ⟨h0,vs,vf,h1,h2,h3,h4,h5,h6,h7,h8⟩:=h
 exact ⟨h0,vs,vf,hc.row h1 (hd b h5),hc.owns h2 (fun k hk => hd k (h6 k hk).1),hc.owns h3 (fun k hk => hd k (h7 k hk).1),fun x hx => ⟨(h4 x hx).1.keep hc (fun k hk => hd k ((h4 x hx).2 k hk).1),(h4 x hx).2⟩,h5,h6,h7,fun k hk => Nat.lt_of_lt_of_le (h8 k hk) hc.size⟩
theorem RAt.adds (h:RAt w b F ρ) (a:Adds w w'):RAt w' b F ρ:=h.keep a (fun _ _ h => h)
theorem RMoved.same (h:RAt w b F ρ) (a:Adds w w'):RMoved w w' b F ρ:=⟨F,h.adds a,a.mono (fun _ _ h => h.elim),fun k hk => .inl hk⟩
theorem RMoved.then {w1:World} {ρ':Rs} (h:RMoved w w1 b F ρ) (hs:∀ F1,RAt w1 b F1 ρ → RMoved w1 w' b F1 ρ'):RMoved w w' b F ρ':=by
 obtain ⟨F1,h1,h2,h3⟩:=h
 obtain ⟨F2,g1,g2,g3⟩:=hs F1 h1
 exact ⟨F2,g1,h2.trans g2 h3,fun k hk => (g3 k hk).elim (h3 k) (fun h => .inr (Nat.le_trans h2.size h))⟩
theorem RMoved.from {w0:World} (a:Adds w0 w) (h:RMoved w w' b F ρ):RMoved w0 w' b F ρ:=by
 obtain ⟨F1,h1,h2,h3⟩:=h
 exact ⟨F1,h1,(a.mono (G:=F) (fun _ _ h => h.elim)).trans h2 (fun k hk => .inl hk),fun k hk => (h3 k hk).elim .inl (fun h => .inr (Nat.le_trans a.size h))⟩
theorem spot_mem (h:RAt w b F ρ) {m:Nat} {x:Sp} (hx:ρ.spots[m]? = some x) :
 ∃ g cap cur vf,w.heap[b]? = some (.cells #[.bool true,.int .i64 (ρ.space:Nat),.slice (some ⟨g,0,none⟩) ρ.spots.length cap,vf] 126 (0,0)) ∧
  w.heap[g]? = some (.cells cur 198 (0,0)) ∧ ρ.spots.length ≤ cap ∧ cap ≤ maxLen ∧ cur.size = cap * 39 ∧ cur.toList.take (ρ.spots.length * 39) = flatA (ρ.spots.map Sp.cells) ∧ m < ρ.spots.length ∧
  x.Ok ∧ (∀ j v,j < 39 → x.cells[j]? = some v → cur[m * 39 + j]? = some v) ∧ cur.extract (m * 39) (m * 39 + 39) = x.cells ∧ F g ∧ g ≠ b ∧ m * 39 + 39 ≤ cur.size:=by
 obtain ⟨h0,vs,vf,h1,h2,h3,h4,h5,h6,h7,h8⟩:=h
 have hm:=(List.getElem?_eq_some_iff.1 hx).1
 obtain ⟨g,cap,cur,rfl,hg,hc1,hc2,hc3,hc4⟩:=owns_block h2 (by omega)
 have hok:x.Ok:=(h0.nums x (List.mem_of_getElem? hx)).1
 have hsz:∀ a ∈ ρ.spots.map Sp.cells,a.size = 39:=fun a ha => by
  obtain ⟨y,hy,rfl⟩:=List.mem_map.1 ha
  exact Sp.cells_size (h0.nums y hy).1
 have hxm:(ρ.spots.map Sp.cells)[m]? = some x.cells:=by rw [List.getElem?_map,hx]; rfl
 have hle:(m + 1) * 39 ≤ ρ.spots.length * 39:=Nat.mul_le_mul_right _ hm
 refine ⟨g,cap,cur,vf,h1,hg,hc1,hc2,hc3,hc4,hm,hok,fun j v hj hv => ?_,?_,(h6 g rfl).1,(h6 g rfl).2,by rw [hc3]; omega⟩
 · exact take_get hc4 (by rw [flatA_at hsz hxm hj]; exact hv)
 apply Array.ext'
 have:=flatA_part hsz hxm
 rw [← hc4] at this
 rw [← this,Array.toList_extract,List.extract,show m * 39 + 39 - m * 39 = 39 by omega,List.drop_take,List.take_take,Nat.min_eq_left (by omega)]
theorem RAt.head (h:RAt w b F ρ):∃ ao cap vf,w.heap[b]? = some (.cells #[.bool true,.int .i64 (ρ.space:Nat),.slice ao ρ.spots.length cap,vf] 126 (0,0)):=by
 obtain ⟨h0,vs,vf,h1,h2,_⟩:=h
 obtain ⟨ao,cap,rfl⟩:=owns_form h2
 exact ⟨ao,cap,vf,h1⟩
theorem RNone_no (h:RAt w b F ρ):Calls Tryz.prog 133 #[.pointer (some ⟨b,0,none⟩)] w fun e w' => e = .returned (.bool false) ∧ w = w':=by
 obtain ⟨ao,cap,vf,hb⟩:=h.head
 have c0:=row_cell hb (i:=0) rfl
 clear hb h
 go_enter Tryz.func133,Tryz.ntmps133
 go_wp2
 go_ret
 exact ⟨rfl,rfl⟩
theorem Rs.sp_out (ρ:Rs) {n:Int} (h:n < 1 ∨ (ρ.spots.length:Int) < n):ρ.sp n = Sp.zero:=by
 unfold Rs.sp
 rcases h with h | h
 · rw [if_neg (by omega)]
 by_cases h1:1 ≤ n
 · rw [if_pos h1,List.getElem?_eq_none (by omega)]
 rw [if_neg h1]
theorem Rs.sp_at (ρ:Rs) {m:Nat} {x:Sp} (h:ρ.spots[m]? = some x):ρ.sp ((m:Int) + 1) = if x.kind = 0 then Sp.zero else x:=by
 unfold Rs.sp
 rw [if_pos (by omega),show ((m:Int) + 1 - 1).toNat = m by omega,h]
theorem Rs.parts (ρ:Rs) (n:Int):(n < 1 ∨ (ρ.spots.length:Int) < n) ∨ ∃ (m:Nat) (x:Sp),n = (m:Int) + 1 ∧ m < ρ.spots.length ∧ ρ.spots[m]? = some x:=by
 by_cases h:n < 1 ∨ (ρ.spots.length:Int) < n
 · exact .inl h
 have hlt:(n - 1).toNat < ρ.spots.length:=by omega
 exact .inr ⟨(n - 1).toNat,ρ.spots[(n - 1).toNat],by omega,hlt,List.getElem?_eq_getElem hlt⟩
theorem RHas_ok (h:RAt w b F ρ) (n:Int):Calls Tryz.prog 137 #[.pointer (some ⟨b,0,none⟩),.int .i64 n] w fun e w' => e = .returned (.bool (ρ.has n)) ∧ w = w':=by
 have hn:=RNone_no h
 have hl:=h.1.len
 have hs:=h.1.space
 have HN:=Lib.hid hn
 clear hn
 rcases ρ.parts n with hout | ⟨m,x,rfl,hm,hx⟩
 · have hz:ρ.has n = false:=by unfold Rs.has; rw [ρ.sp_out hout]; rfl
   rw [hz]
   obtain ⟨ao,cap,vf,hb⟩:=h.head
   have c2:=row_cell hb (i:=2) rfl
   obtain ⟨L,hL⟩:∃ L,L = ρ.spots.length:=⟨_,rfl⟩
   rw [← hL] at c2 hout
   clear hb h hz hL
   by_cases h1:n < 1
   · have d1:decide ((1:Int) ≤ n) = false:=decide_eq_false (by omega)
     clear hout
     go_enter Tryz.func137,Tryz.ntmps137
     go_wp2_with fail
     refine HN.out.mono ?_; rintro e w1 ⟨rfl,rfl⟩
     go_wp2
     go_ret
     exact ⟨rfl,rfl⟩
   have d1:decide ((1:Int) ≤ n) = true:=decide_eq_true (by omega)
   have d2:decide (n ≤ (L:Int)) = false:=decide_eq_false (by omega)
   clear hout
   go_enter Tryz.func137,Tryz.ntmps137
   go_wp2_with fail
   refine HN.out.mono ?_; rintro e w1 ⟨rfl,rfl⟩
   go_wp2
   go_ret
   exact ⟨rfl,rfl⟩
 obtain ⟨g,cap,cur,vf,hb,hg,q1,q2,q3,q4,q5,hok,hat,hex,_⟩:=spot_mem h hx
 have c2:=row_cell hb (i:=2) rfl
 have ck:=row_cell hg (i:=m * 39) (hat 0 _ (by omega) Sp.at_kind)
 have hhas:ρ.has ((m:Int) + 1) = decide (x.kind ≠ 0):=by
  unfold Rs.has
  rw [ρ.sp_at hx]
  by_cases e:x.kind = 0
  · rw [if_pos e,e]; rfl
  rw [if_neg e]
 rw [hhas]
 obtain ⟨L,hL⟩:∃ L,L = ρ.spots.length:=⟨_,rfl⟩
 rw [← hL] at c2 hm hl
 obtain ⟨kd,hkd⟩:∃ kd,kd = x.kind:=⟨_,rfl⟩
 rw [← hkd] at ck ⊢
 have d1:decide ((1:Int) ≤ (m:Int) + 1) = true:=decide_eq_true (by omega)
 have d2:decide ((m:Int) + 1 ≤ (L:Int)) = true:=decide_eq_true (by omega)
 have hml:m ≤ 65535:=by omega
 clear hb h hL hkd hhas hg q1 q2 q3 q4 q5 hok hat hex hx
 by_cases h0:kd = 0
 · subst h0
   go_enter Tryz.func137,Tryz.ntmps137
   go_wp2_with fail
   refine HN.out.mono ?_; rintro e w1 ⟨rfl,rfl⟩
   go_wp2
   go_ret
   exact ⟨rfl,rfl⟩
 have h0':¬ ((kd:Nat):Int) = 0:=by omega
 go_enter Tryz.func137,Tryz.ntmps137
 go_wp2_with fail
 refine HN.out.mono ?_; rintro e w1 ⟨rfl,rfl⟩
 go_wp2
 go_ret
 exact ⟨by simp [h0],rfl⟩
end
theorem zeroSp:(Tryz.prog.info? 198).bind (·.zero) = some (.agg Sp.zero.cells):=by kernel_rfl
theorem builtSp:Tryz.prog.built 198 [] = some Sp.zero.cells:=by kernel_rfl
theorem sizeSp:(Tryz.prog.info? 198).map (·.size) = some 39:=by kernel_rfl
theorem Rs.Fine.ok {ρ:Rs} (h:ρ.Fine) (n:Int):(ρ.sp n).Ok ∧ (0 ≤ (ρ.sp n).own ∧ (ρ.sp n).own ≤ 2147483648) ∧ (0 ≤ (ρ.sp n).sides ∧ (ρ.sp n).sides ≤ 2147483648):=by
 rcases ρ.parts n with ho | ⟨m,x,rfl,hm,hx⟩
 · rw [ρ.sp_out ho]; exact ⟨Sp.zero_ok,by decide,by decide⟩
 rw [ρ.sp_at hx]
 split
 · exact ⟨Sp.zero_ok,by decide,by decide⟩
 exact h.nums x (List.mem_of_getElem? hx)
section
variable {w w' : World} {b : Nat} {F : Nat → Prop} {ρ : Rs}
theorem Rat_ok (h:RAt w b F ρ) (n:Int):Calls Tryz.prog 144 #[.pointer (some ⟨b,0,none⟩),.int .i64 n] w fun e w' => e = .returned (.agg (ρ.sp n).cells) ∧ Adds w w':=by
 obtain ⟨Z,hZ⟩:∃ Z,Z = Sp.zero.cells:=⟨_,rfl⟩
 have hz:=zeroSp
 have hzb:=builtSp
 rw [← hZ] at hz hzb
 have hzs:Z.size = 39 ∧ ∀ v ∈ Z.toList,v.oneCell' = true:=by rw [hZ]; exact ⟨Sp.cells_size Sp.zero_ok,Sp.cells_one Sp.zero_ok⟩
 have HZ:=(hIq hz (aIq hzs.1 (aIq hzs.2 hzb)))
 have hh:=RHas_ok (h.adds ((Ch.refl (fun _ => False) w).alloc (.cells Z 198))) n
 have hl:=h.1.len
 have hs:=h.1.space
 by_cases hb:ρ.has n = true
 · rw [hb] at hh
   have HH:=Lib.hid hh
   rcases ρ.parts n with hout | ⟨m,x,rfl,hm,hx⟩
   · exfalso
     unfold Rs.has at hb
     rw [ρ.sp_out hout] at hb
     simp [Sp.zero] at hb
   have hsp:ρ.sp ((m:Int) + 1) = x:=by
    unfold Rs.has at hb
    rw [ρ.sp_at hx] at hb ⊢
    by_cases e:x.kind = 0
    · rw [if_pos e] at hb; simp [Sp.zero] at hb
    rw [if_neg e]
   rw [hsp]
   obtain ⟨g,cap,cur,vf,hb1,hg,q1,q2,q3,q4,q5,hok,hat,hex,_,_,hfit⟩:=spot_mem h hx
   obtain ⟨X,hX⟩:∃ X,X = x.cells:=⟨_,rfl⟩
   have hXs:X.size = 39 ∧ ∀ v ∈ X.toList,v.oneCell' = true:=by rw [hX]; exact ⟨Sp.cells_size hok,Sp.cells_one hok⟩
   rw [← hX] at hex ⊢
   have c2:=row_cell (row_alloc hb1 (.cells Z 198)) (i:=2) rfl
   obtain ⟨L,hL⟩:∃ L,L = ρ.spots.length:=⟨_,rfl⟩
   rw [← hL] at c2 hm hl
   have HG:=(hIq hg (aIq hfit hex))
   have HX:=Lib.hid hXs
   have hml:m ≤ 65535:=by omega
   clear hh hb hX hXs hz hzb hzs hZ hL hb1 hg q1 q2 q3 q4 q5 hok hat hex hfit hx hsp h
   go_enter Tryz.func144,Tryz.ntmps144
   go_wp2_with (first
    | fail
    | ((with_reducible show zOq (.alloc 198)); refine wpList_alloc_is rfl 198 rfl (.agg Z) HZ.out.1 ?_; dsimp only [Value.cells]; try simp only [World.size_alloc]))
   refine HH.out.mono ?_; rintro e w1 ⟨rfl,rfl⟩
   go_wp2_with (first
    | fail
    | ((with_reducible show zOq (.load 198 _)); refine wpList_load_part rfl 198 _ rfl g (m * 39) rfl (row_alloc HG.out.1 _) Tryz.underlying198 rfl sizeSp HG.out.2.1 X HG.out.2.2 ?_)
    | ((with_reducible show zOq (.store 198 _ _)); refine wpList_store_part rfl 198 _ _ rfl w.heap.size 0 X rfl rfl (heap_alloc_new _ _) (by rw [sizeSp,HX.out.1]) (by rw [HX.out.1,HZ.out.2.1]; omega) HX.out.2 X (by rw [splice_all _ _ (by rw [Array.length_toList,Array.length_toList,HX.out.1,HZ.out.2.1])]) ?_))
   exact bodyPost_ret_cell1 (p:=4) rfl rfl (row_setRow_same (heap_alloc_new _ _) _) Tryz.underlying198 rfl (by rw [sizeSp,HX.out.1]) rfl ⟨rfl,((Ch.refl _ _).alloc _).setRow (.inr (Nat.le_refl _)) _⟩
 have hb':ρ.has n = false:=by simpa using hb
 have hsp:ρ.sp n = Sp.zero:=by
  unfold Rs.has at hb'
  rcases ρ.parts n with hout | ⟨m,x,rfl,hm,hx⟩
  · exact ρ.sp_out hout
  rw [ρ.sp_at hx] at hb' ⊢
  by_cases e:x.kind = 0
  · rw [if_pos e]
  rw [if_neg e] at hb'; simp [e] at hb'
 rw [hb'] at hh
 have HH:=Lib.hid hh
 rw [hsp, ← hZ]
 clear hh hb hb' hsp hz hzb hzs hZ h hl hs
 go_enter Tryz.func144,Tryz.ntmps144
 go_wp2_with (first
  | fail
  | ((with_reducible show zOq (.alloc 198)); refine wpList_alloc_is rfl 198 rfl (.agg Z) HZ.out.1 ?_; dsimp only [Value.cells]; try simp only [World.size_alloc]))
 refine HH.out.mono ?_; rintro e w1 ⟨rfl,rfl⟩
 go_wp2_with (first
  | fail
  | ((with_reducible show zOq (.build 198 #[])); refine wpList_build_none rfl 198 rfl Z HZ.out.2.2.2 ?_)
  | ((with_reducible show zOq (.store 198 _ _)); refine wpList_store_part rfl 198 _ _ rfl w.heap.size 0 Z rfl rfl (heap_alloc_new _ _) (by rw [sizeSp,HZ.out.2.1]) (by omega) HZ.out.2.2.1 Z (by rw [splice_all _ _ rfl]) ?_))
 exact bodyPost_ret_cell1 (p:=4) rfl rfl (row_setRow_same (heap_alloc_new _ _) _) Tryz.underlying198 rfl (by rw [sizeSp,HZ.out.2.1]) rfl ⟨rfl,((Ch.refl _ _).alloc _).setRow (.inr (Nat.le_refl _)) _⟩
end
end Go.Proofs.YtmeglndnkdgkoaaGreat.Store
namespace Go.Proofs.YtmeglndnkdgkoaaGreat
open Go Go.RowKit
theorem run_field_one {P:Program} {w:World} {T:TypeId} {fs:Array Field} {N:Array Value} {i:Nat} {f:Field} {v:Value} (ht:P.underlying T = some (.struct fs)) (hf:fs[i]? = some f) (ha:(isAgg f.type).run P w = .ok false w) (hv:N[f.offset]? = some v) :
 (Instr.field T (.agg N) i).run P w = .ok v w:=by
 unfold Instr.field part
 have hu:(Go.underlying T).run P w = .ok (.struct fs) w:=by simp [Go.underlying,ht,go_sem]
 simp only [Sem.run_bind,hu,Result.andThen_ok,hf,asAgg,Sem.run_pure,ha,hv]
 simp [go_sem]
theorem run_field_part {P:Program} {w:World} {T:TypeId} {fs:Array Field} {N:Array Value} {i:Nat} {f:Field} {n:Nat} (ht:P.underlying T = some (.struct fs)) (hf:fs[i]? = some f) (ha:(isAgg f.type).run P w = .ok true w) (hs:(Go.sizeOf f.type).run P w = .ok n w) {C:Array Value} (hv:N.extract f.offset (f.offset + n) = C) :
 (Instr.field T (.agg N) i).run P w = .ok (.agg C) w:=by
 unfold Instr.field part
 have hu:(Go.underlying T).run P w = .ok (.struct fs) w:=by simp [Go.underlying,ht,go_sem]
 simp only [Sem.run_bind,hu,Result.andThen_ok,hf,asAgg,Sem.run_pure,ha]
 simp [hv,hs,go_sem]
end Go.Proofs.YtmeglndnkdgkoaaGreat

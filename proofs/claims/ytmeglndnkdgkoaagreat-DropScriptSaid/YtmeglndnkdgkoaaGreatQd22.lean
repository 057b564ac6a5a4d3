/- Proved contracts and plain laws of the layers below, in one text. -/
import Derived.Test.YtmeglndnkdgkoaaGreatQd21
import Derived.Lib.Bytealg
import Derived.Sort.Statements
set_option maxHeartbeats 3200000
set_option maxRecDepth 100000
set_option linter.unusedVariables false
namespace Go.Proofs.YtmeglndnkdgkoaaGreat.Store
open Go Go.RowKit Go.Proofs.YtmeglndnkdgkoaaGreat Go.Proofs.YtmeglndnkdgkoaaGreat.ShaW Go.Proofs.YtmeglndnkdgkoaaGreat.Path
section
variable {σ0 σ τ : SlabSt Nd} {key : List UInt8} {root e : Int} {l : List Int} {t : Tr}
noncomputable def up9 (σ:SlabSt Nd) (k:List UInt8) (h:Int) (d:Nat) (now:Int):Int × SlabSt Nd :=
 if besideS σ k h d = 0 ∧ (nd σ now).kind ≠ 2 then (now,σ)
 else if now = 0 ∧ (nd (heldS σ (besideS σ k h d)) (besideS σ k h d)).kind = 1 then (besideS σ k h d,heldS σ (besideS σ k h d))
 else stepS σ k h d now
noncomputable def up9L (k:List UInt8) (l:List Int):Nat → Int × SlabSt Nd → Int × SlabSt Nd
 | 0,x => x
 | m + 1,x => up9L k l m (up9 x.2 k (l.getD m 0) m x.1)
theorem up9_skip {k:List UInt8} {n:Int} {d:Nat} {now:Int} (a:besideS σ k n d = 0 ∧ (nd σ now).kind ≠ 2):up9 σ k n d now = (now,σ):=by unfold up9; rw [if_pos a]
theorem up9_take {k:List UInt8} {n:Int} {d:Nat} {now:Int} (a:¬ (besideS σ k n d = 0 ∧ (nd σ now).kind ≠ 2)) (c:now = 0 ∧ (nd (heldS σ (besideS σ k n d)) (besideS σ k n d)).kind = 1):up9 σ k n d now = (besideS σ k n d,heldS σ (besideS σ k n d)):=by unfold up9; rw [if_neg a,if_pos c]
theorem up9_step {k:List UInt8} {n:Int} {d:Nat} {now:Int} (a:¬ (besideS σ k n d = 0 ∧ (nd σ now).kind ≠ 2)) (c:¬ (now = 0 ∧ (nd (heldS σ (besideS σ k n d)) (besideS σ k n d)).kind = 1)):up9 σ k n d now = stepS σ k n d now:=by unfold up9; rw [if_neg a,if_neg c]
theorem up9_good (h:Good σ) (k:List UInt8) (n:Int) (d:Nat) (now:Int):Good (up9 σ k n d now).2:=by
 have h1:=Good.heldS h (besideS σ k n d)
 have h2:=Good.step h k n d now
 by_cases a:besideS σ k n d = 0 ∧ (nd σ now).kind ≠ 2
 · rw [up9_skip a]; exact h
 by_cases c:now = 0 ∧ (nd (heldS σ (besideS σ k n d)) (besideS σ k n d)).kind = 1
 · rw [up9_take a c]; dsimp only; exact h1
 rw [up9_step a c]; exact h2
theorem nd_heldS (G:Good σ) (o h:Int):(nd (heldS σ o) h).kind = (nd σ h).kind ∧ (nd (heldS σ o) h).left = (nd σ h).left ∧ (nd (heldS σ o) h).right = (nd σ h).right:=by
 unfold heldS
 split
 · have hs:sk (holdS σ o).2 h = sk σ h:=holdS_sk σ o h
   cases hx:sk σ h with
   | some x =>
    rw [hx] at hs
    rw [nd_kind hx,nd_kind hs,nd_left hx,nd_left hs,nd_right hx,nd_right hs]
    exact ⟨rfl,rfl,rfl⟩
   | none =>
    rw [hx] at hs
    have e1:σ.get? h = none:=by
     cases hg:σ.get? h with
     | none => rfl
     | some x => rw [sk_some hg] at hx; cases hx
    have e2:(holdS σ o).2.get? h = none:=by
     cases hg:(holdS σ o).2.get? h with
     | none => rfl
     | some x => rw [sk_some hg] at hs; cases hs
    rw [nd_none e1,nd_none e2]
    exact ⟨rfl,rfl,rfl⟩
 exact ⟨rfl,rfl,rfl⟩
theorem beside_heldS (G:Good σ) (o:Int) (k:List UInt8) (h:Int) (d:Nat):besideS (heldS σ o) k h d = besideS σ k h d:=by
 unfold besideS
 obtain ⟨_,a,b⟩:=nd_heldS G o h
 rw [a,b]
theorem up9_look (G:Good σ) (key:List UInt8) (l:List Int):∀ (m:Nat) (st:Int),(st = 0 ∨ (nd σ st).kind = 1) →
 up9L key l m (st,heldS σ st) =
  if (lookL σ key l m st).2.2 = true then up9L key l (lookL σ key l m st).2.1.toNat ((joinS (heldS σ (lookL σ key l m st).1) key (lookL σ key l m st).2.1 0 (lookL σ key l m st).1).1,(joinS (heldS σ (lookL σ key l m st).1) key (lookL σ key l m st).2.1 0 (lookL σ key l m st).1).2.2)
  else if (lookL σ key l m st).2.1 = -1 then ((lookL σ key l m st).1,heldS σ (lookL σ key l m st).1)
  else up9L key l (lookL σ key l m st).2.1.toNat (stepS (heldS σ (lookL σ key l m st).1) key (l.getD (lookL σ key l m st).2.1.toNat 0) (lookL σ key l m st).2.1.toNat (lookL σ key l m st).1)
 | 0,st,_ => by
  unfold lookL up9L
  simp
 | m + 1,st,hst => by
  have hb:=beside_heldS G st key (l.getD m 0) m
  have hk:=(nd_heldS G st st).1
  have hz:(nd σ 0).kind = 0:=nd_gone G.fit.zero
  have hk2:(nd (heldS σ st) st).kind ≠ 2:=by
   rw [hk]
   rcases hst with rfl | h
   · rw [hz]; decide
   rw [h]; decide
  rw [show up9L key l (m + 1) (st,heldS σ st) = up9L key l m (up9 (heldS σ st) key (l.getD m 0) m st) from rfl]
  unfold lookL
  by_cases h0:besideS σ key (l.getD m 0) m = 0
  · rw [if_pos h0]
    have:up9 (heldS σ st) key (l.getD m 0) m st = (st,heldS σ st):=by
     unfold up9
     rw [hb,if_pos ⟨h0,hk2⟩]
    rw [this]
    exact up9_look G key l m st hst
  rw [if_neg h0]
  by_cases hs:st = 0
  · subst hs
    rw [if_neg (show ¬ ((0:Int) ≠ 0) from fun h => h rfl)]
    rw [heldS_zero] at hb ⊢
    by_cases h1:(nd σ (besideS σ key (l.getD m 0) m)).kind = 1
    · rw [if_pos h1]
      have:up9 σ key (l.getD m 0) m 0 = (besideS σ key (l.getD m 0) m,heldS σ (besideS σ key (l.getD m 0) m)):=by
       unfold up9
       rw [if_neg (fun h => h0 h.1),if_pos ⟨rfl,by rw [(nd_heldS G _ _).1]; exact h1⟩]
      rw [this]
      exact up9_look G key l m _ (.inr h1)
    rw [if_neg h1]
    have:up9 σ key (l.getD m 0) m 0 = stepS σ key (l.getD m 0) m 0:=by
     unfold up9
     rw [if_neg (fun h => h0 h.1),if_neg (fun h => h1 (by rw [← (nd_heldS G (besideS σ key (l.getD m 0) m) _).1]; exact h.2))]
    rw [this]
    simp only [if_true,Int.toNat_natCast]
    rfl
  rw [if_pos hs]
  have:up9 (heldS σ st) key (l.getD m 0) m st = stepS (heldS σ st) key (l.getD m 0) m st:=by
   unfold up9
   rw [hb,if_neg (fun h => h0 h.1),if_neg (fun h => hs h.1)]
  rw [this]
  simp only [Int.toNat_natCast]
  rw [if_neg Bool.false_ne_true,if_neg (show ¬ ((m:Int) = -1) by omega)]
theorem up9_up (G:Good σ0) (hk:key.length = 32) (ht:Rep (sk σ0) root 0 t) (ho:On (sk σ0) key root 0 l e):∀ (j:Nat),j ≤ l.length → ∀ {now:Int} {σ:SlabSt Nd} {u:Tr} {n:Nat},
 DMid σ0 σ key now j u n → u.isNode = true → live σ0 + n + j ≤ σ0.room → total σ0 + 2 * n + 2 * j + 3 < 1073741824 → up9L key l j (now,σ) = upL key 0 (l.take j) σ now
 | 0,_,now,σ,u,n,_,_,_,_ => rfl
 | j + 1,hj,now,σ,u,n,hm,hu,h1,h2 => by
  have hz:=G.fit.zero
  obtain ⟨h,y,tl,tr,L⟩:=level G ht ho (show j < l.length by omega)
  have hg:l.getD j 0 = h:=by simp [L.at_]
  have hkd:(nd σ now).kind = 2:=by
   have hr:=hm.rep
   cases hr with
   | nil => cases hu
   | leaf _ _ => cases hu
   | node hn h2 _ _ _ => rw [nd_kind hn,h2]
  have hx0:now ≠ 0:=fun e0 => by
   rw [e0,nd_gone hm.good.fit.zero] at hkd
   exact absurd hkd (by decide)
  have hup:up9 σ key (l.getD j 0) j now = stepS σ key (l.getD j 0) j now:=by
   unfold up9
   rw [if_neg (fun h => h.2 hkd),if_neg (fun h => hx0 h.1)]
  rw [show up9L key l (j + 1) (now,σ) = up9L key l j (up9 σ key (l.getD j 0) j now) from rfl,hup,hg]
  have hs:=DMid.next G hk L.there L.kind L.depth L.pre L.left L.right hm (by omega) (by omega) (.inl hu)
  have hi:=up9_up G hk ht ho j (by omega) hs (mk_node ..) (by omega) (by omega)
  rw [show l.take (j + 1) = l.take j ++ [h] by rw [List.take_add_one,L.at_]; rfl,upL_last,List.length_take,Nat.min_eq_left (by omega),Nat.zero_add]
  exact hi
theorem up9_cut (G:Good σ0) (hk:key.length = 32) (ht:Rep (sk σ0) root 0 t) (ho:On (sk σ0) key root 0 l e) (hth:thereS σ0 key e = true) (hroom:live σ0 + 258 ≤ σ0.room) (htot:total σ0 + 1000 < 1073741824) :
 up9L key l l.length (0,σ0) = cutS σ0 key l:=by
 have hz:=G.fit.zero
 have hll:=ho.len G.fit (by omega)
 obtain ⟨te,hte⟩:=ho.rep_end hz ht
 rw [Nat.zero_add] at hte
 have hend:delT key l.length te = .nil:=by
  unfold thereS at hth
  simp at hth
  cases hte with
  | nil => rfl
  | leaf hn h1 =>
   rw [nd_key hn] at hth
   unfold delT
   rw [if_pos hth.2]
  | node hn h2 _ _ _ => rw [nd_kind hn,h2] at hth; exact absurd hth.1 (by decide)
 have hone:On (sk σ0) key e l.length (l.drop l.length) e:=by
  rw [List.drop_length]
  exact .stop ho.end_
 have A:=up9_look G key l l.length 0 (.inl rfl)
 rw [heldS_zero] at A
 rw [A]
 rcases lookL_spec G ht ho l.length (Nat.le_refl _) hone hte (.inl ⟨rfl,hend⟩) with ⟨h1,h2,h3⟩ | ⟨j,h,x,tl,tr,h1,L,h2,h3,h4,h5⟩ | ⟨j,h,x,tl,tr,h1,L,h2,h3,h4,h5⟩
 · unfold cutS
   simp only
   rw [h2,h1,if_neg Bool.false_ne_true,if_neg Bool.false_ne_true,if_pos rfl]
   rfl
 · have hjl:j < l.length:=(List.getElem?_eq_some_iff.1 L.at_).1
   have hg:l.getD j 0 = h:=by simp [L.at_]
   unfold cutS
   simp only
   rw [h2,h1,if_neg Bool.false_ne_true,if_neg Bool.false_ne_true,if_neg (show ¬ ((j:Int) = -1) by omega),Int.toNat_natCast,show ((j:Int) + 1).toNat = j + 1 by omega,show l.take (j + 1) = l.take j ++ [h] by rw [List.take_add_one,L.at_]; rfl,upL_last,List.length_take,Nat.min_eq_left (by omega),Nat.zero_add,hg]
   have hst:∀ y,sk σ0 (lookL σ0 key l l.length 0).1 = some y → Pre y.key key (j + 1):=fun y hy => by
    rcases h4 with ⟨e1,_⟩ | ⟨y',y1,_,_,y4⟩
    · exact absurd e1 h3
    rw [y1] at hy; cases hy; exact y4
   have m0:=DMid.start (key:=key) G (by omega) (h4.rep (j + 1)) hst
   have m1:=DMid.next G hk L.there L.kind L.depth L.pre L.left L.right m0 (by omega) (by omega) (.inr (.inr ⟨h3,h5⟩))
   exact up9_up G hk ht ho j (by omega) m1 (mk_node ..) (by omega) (by omega)
 have hjl:j < l.length:=(List.getElem?_eq_some_iff.1 L.at_).1
 have hN:=G.fit.next (σ0:=σ0) rfl L.there L.kind L.depth L.pre L.left L.right
 unfold cutS
 simp only
 rw [h2,h1,if_pos rfl,if_pos rfl,Int.toNat_natCast]
 have hd1:=(G.fit.inner L.there L.kind).d1
 have hdd:=L.depth
 have m0:DMid σ0 σ0 key 0 (j + 1) .nil 0:=by
  have:=DMid.start (key:=key) (d:=j + 1) (st:=0) G (by omega) .nil (fun y hy => by rw [hz] at hy; cases hy)
  rw [heldS_zero] at this
  exact this
 rw [← h4] at hN
 have m1:=m0.join (by omega) (by omega) (by omega) hk hN (.inr rfl) (.inr (.inl h5))
 exact up9_up G hk ht ho j (by omega) m1 (mk_node ..) (by omega) (by omega)
end
theorem u8_lt {a b:UInt8}:a < b ↔ a.toNat < b.toNat:=UInt8.lt_iff_toNat_lt
theorem u8_eq {a b:UInt8}:a = b ↔ a.toNat = b.toNat:=UInt8.toNat_inj.symm
theorem div_step (n j:Nat) (hj:j < 8):n / 2 ^ (7 - j) = 2 * (n / 2 ^ (8 - j)) + n / 2 ^ (7 - j) % 2:=by
 have:n / 2 ^ (8 - j) = n / 2 ^ (7 - j) / 2:=by
  rw [Nat.div_div_eq_div_mul, ← Nat.pow_succ,Nat.succ_eq_add_one,show 7 - j + 1 = 8 - j by omega]
 omega
theorem high_eq (x y:UInt8):∀ j,j ≤ 8 → (∀ i,i < j → bbit x i = bbit y i) → x.toNat / 2 ^ (8 - j) = y.toNat / 2 ^ (8 - j)
 | 0,_,_ => by
  have a:=x.toNat_lt
  have b:=y.toNat_lt
  rw [Nat.div_eq_of_lt (by simpa using a),Nat.div_eq_of_lt (by simpa using b)]
 | j + 1,hj,h => by
  have ih:=high_eq x y j (by omega) (fun i hi => h i (by omega))
  have e:=h j (by omega)
  unfold bbit at e
  have a:=div_step x.toNat j (by omega)
  have b:=div_step y.toNat j (by omega)
  rw [show 8 - (j + 1) = 7 - j by omega,a,b,ih,e]
theorem byte_lt (x y:UInt8) (j:Nat) (hj:j < 8) (h:∀ i,i < j → bbit x i = bbit y i) (hx:bbit x j = 0) (hy:bbit y j = 1):x < y:=by
 rw [u8_lt]
 have e:=high_eq x y j (by omega) h
 have a:=div_step x.toNat j hj
 have b:=div_step y.toNat j hj
 unfold bbit at hx hy
 rw [hx,e] at a
 rw [hy] at b
 rcases Nat.lt_or_ge x.toNat y.toNat with g | g
 · exact g
 have:=Nat.div_le_div_right (c:=2 ^ (7 - j)) g
 omega
theorem byte_eq (x y:UInt8) (h:∀ i,i < 8 → bbit x i = bbit y i):x = y:=by
 rw [u8_eq]
 have e:=high_eq x y 8 (Nat.le_refl _) h
 simpa using e
theorem kbit_hd (x:UInt8) (l:List UInt8) {d:Nat} (h:d < 8):kbit (x :: l) d = bbit x d:=by
 unfold kbit
 rw [Nat.div_eq_of_lt h,Nat.mod_eq_of_lt h]
 rfl
theorem kbit_tl (x:UInt8) (l:List UInt8) (d:Nat):kbit (x :: l) (d + 8) = kbit l d:=by
 unfold kbit
 rw [Nat.add_div_right _ (by omega),Nat.add_mod_right]
 rfl
theorem cmp_bits:∀ (a b:List UInt8) (d:Nat),a.length = b.length → d < 8 * a.length → Pre a b d → kbit a d = 0 → kbit b d = 1 → Lib.compareBytes a b = -1
 | [],_,d,_,h,_,_,_ => absurd h (by simp)
 | _ :: _,[],_,h,_,_,_,_ => absurd h (by simp)
 | x :: l,y :: m,d,hl,hd,hp,ha,hb => by
  by_cases h8:d < 8
  · rw [kbit_hd x l h8] at ha
    rw [kbit_hd y m h8] at hb
    have:=byte_lt x y d h8 (fun i hi => by have:=hp i hi; rwa [kbit_hd x l (by omega),kbit_hd y m (by omega)] at this) ha hb
    unfold Lib.compareBytes
    rw [if_pos this]
  obtain ⟨e,rfl⟩:∃ e,d = e + 8:=⟨d - 8,by omega⟩
  rw [kbit_tl] at ha hb
  have hxy:=byte_eq x y (fun i hi => by have:=hp i (by omega); rwa [kbit_hd x l hi,kbit_hd y m hi] at this)
  subst hxy
  unfold Lib.compareBytes
  rw [if_neg (UInt8.lt_irrefl x),if_neg (UInt8.lt_irrefl x)]
  refine cmp_bits l m e (by simpa using hl) (by simp at hd; omega) (fun i hi => ?_) ha hb
  have:=hp (i + 8) (by omega)
  rwa [kbit_tl,kbit_tl] at this
theorem cmp_self:∀ a:List UInt8,Lib.compareBytes a a = 0
 | [] => rfl
 | x :: l => by
  unfold Lib.compareBytes
  rw [if_neg (UInt8.lt_irrefl x),if_neg (UInt8.lt_irrefl x)]
  exact cmp_self l
def Rising (L:Ents):Prop:=L.Pairwise fun p q => ¬ Lib.compareBytes q.1 p.1 < 0
theorem Rising.take {L:Ents} (h:Rising L) (n:Nat):Rising (L.take n):=h.sublist (List.take_sublist n L)
theorem Rising.drop {L:Ents} (h:Rising L) (n:Nat):Rising (L.drop n):=h.sublist (List.drop_sublist n L)
theorem Ents.Ok.sides {L:Ents} {k:List UInt8} {d:Nat} (hO:L.Ok k d) (b:Nat) (hb:b < 2):∃ k',Ents.Ok (sideE b d L) k' (d + 1):=by
 match hL:sideE b d L with
 | [] => exact ⟨k,by simp [keysOf],by simp,by simp⟩
 | p :: R =>
  have hm:∀ q ∈ sideE b d L,q ∈ L ∧ kbit q.1 d = b:=fun q hq => ⟨(List.mem_filter.1 hq).1,by simpa using (List.mem_filter.1 hq).2⟩
  have hp:=hm p (by rw [hL]; simp)
  refine ⟨p.1,?_⟩
  rw [← hL]
  exact ⟨(hO.filter _).nodup,(hO.filter _).len,fun q hq => ((hO.pre q (hm q hq).1).trans (hO.pre p hp.1).symm).next (by rw [(hm q hq).2,hp.2])⟩
def Tr.ents:Tr → Ents
 | .nil => []
 | .leaf k v => [(k,v)]
 | .node l r => l.ents ++ r.ents
theorem Tr.ents_length:∀ t:Tr,t.ents.length = t.leaves
 | .nil => rfl
 | .leaf _ _ => rfl
 | .node l r => by
  show (l.ents ++ r.ents).length = l.leaves + r.leaves
  rw [List.length_append,l.ents_length,r.ents_length]
def Ltk (p q:List UInt8 × List UInt8):Prop:=Lib.compareBytes p.1 q.1 < 0
theorem Rep.zero_nil {f:View} (hz:f 0 = none) {d:Nat} {t:Tr} (hr:Rep f 0 d t):t = .nil:=by
 cases hr with
 | nil => rfl
 | leaf hn _ => rw [hz] at hn; cases hn
 | node hn _ _ _ _ => rw [hz] at hn; cases hn
theorem Rep.ents {f:View} (hf:Fit f) {h:Int} {d:Nat} {t:Tr} (hr:Rep f h d t) :
 (∀ e ∈ t.ents,e.1.length = 32 ∧ e.2.length ≤ 1024) ∧ (∀ n,f h = some n → ∀ e ∈ t.ents,(n.kind = 2 → Pre e.1 n.key d) ∧ (n.kind ≠ 2 → e.1 = n.key)) ∧ t.ents.Pairwise Ltk:=by
 induction hr with
 | nil => exact ⟨fun e he => (by cases he),fun n hn => (by rw [hf.zero] at hn; cases hn),List.Pairwise.nil⟩
 | @leaf h d n hn hk =>
  obtain ⟨_,ho⟩:=hf.leaf hn (by omega)
  refine ⟨fun e he => ?_,fun m hm e he => ?_,List.pairwise_singleton _ _⟩
  · obtain rfl:=List.mem_singleton.1 he
    exact ⟨ho.key,ho.value⟩
  obtain rfl:=List.mem_singleton.1 he
  rw [hn] at hm
  cases hm
  exact ⟨fun h2 => absurd h2 (by omega),fun _ => rfl⟩
 | @node h d n l r hn hk hd hl hr ihl ihr =>
  obtain ⟨al,bl,cl⟩:=ihl
  obtain ⟨ar,br,cr⟩:=ihr
  obtain ⟨p1,p2⟩:=hf.pre hn hk hd (k:=n.key) (fun _ _ => rfl)
  obtain ⟨q1,q2⟩:=hf.kids hn hk
  have hd1:=(hf.inner hn hk).d1
  have hlt:d < 256:=by omega
  have left:∀ e ∈ l.ents,Pre e.1 n.key d ∧ kbit e.1 d = 0:=fun e he => by
   rcases hl.live with h0 | ⟨y,hy⟩
   · rw [h0] at hl; rw [hl.zero_nil hf.zero] at he; cases he
   have hb:kbit y.key d = 0:=bit_of hlt (by have:=(q1 y hy).2; rw [hd] at this; exact this)
   by_cases h2:y.kind = 2
   · have hp:=(bl y hy e he).1 h2
     exact ⟨(hp.less (Nat.le_succ d)).trans (p1 y hy),(hp d (Nat.lt_succ_self d)).trans hb⟩
   rw [(bl y hy e he).2 h2]; exact ⟨p1 y hy,hb⟩
  have right:∀ e ∈ r.ents,Pre e.1 n.key d ∧ kbit e.1 d = 1:=fun e he => by
   rcases hr.live with h0 | ⟨y,hy⟩
   · rw [h0] at hr; rw [hr.zero_nil hf.zero] at he; cases he
   have hb:kbit y.key d = 1:=bit_of hlt (by have:=(q2 y hy).2; rw [hd] at this; exact this)
   by_cases h2:y.kind = 2
   · have hp:=(br y hy e he).1 h2
     exact ⟨(hp.less (Nat.le_succ d)).trans (p2 y hy),(hp d (Nat.lt_succ_self d)).trans hb⟩
   rw [(br y hy e he).2 h2]; exact ⟨p2 y hy,hb⟩
  refine ⟨fun e he => (List.mem_append.1 he).elim (al e) (ar e),fun m hm e he => ?_,List.pairwise_append.2 ⟨cl,cr,fun a ha b hb => ?_⟩⟩
  · rw [hn] at hm
    cases hm
    exact ⟨fun _ => (List.mem_append.1 he).elim (fun h => (left e h).1) (fun h => (right e h).1),fun h2 => absurd hk h2⟩
  obtain ⟨a1,a2⟩:=left a ha
  obtain ⟨b1,b2⟩:=right b hb
  unfold Ltk
  rw [cmp_bits a.1 b.1 d (by rw [(al a ha).1,(ar b hb).1]) (by rw [(al a ha).1]; omega) (a1.trans b1.symm) a2 b2]
  decide
theorem Rep.sides {f:View} (hf:Fit f) {h:Int} {d:Nat} {n:Nd} {l r:Tr} (hn:f h = some n) (hk:n.kind = 2) (hd:n.depth = (d:Nat)) (hl:Rep f n.left (d + 1) l) (hr:Rep f n.right (d + 1) r) :
 (∀ e ∈ l.ents,Pre e.1 n.key d ∧ kbit e.1 d = 0) ∧ (∀ e ∈ r.ents,Pre e.1 n.key d ∧ kbit e.1 d = 1):=by
 obtain ⟨_,bl,_⟩:=hl.ents hf
 obtain ⟨_,br,_⟩:=hr.ents hf
 obtain ⟨p1,p2⟩:=hf.pre hn hk hd (k:=n.key) (fun _ _ => rfl)
 obtain ⟨q1,q2⟩:=hf.kids hn hk
 have hd1:=(hf.inner hn hk).d1
 have hlt:d < 256:=by omega
 refine ⟨fun e he => ?_,fun e he => ?_⟩
 · rcases hl.live with h0 | ⟨y,hy⟩
   · rw [h0] at hl; rw [hl.zero_nil hf.zero] at he; cases he
   have hb:kbit y.key d = 0:=bit_of hlt (by have:=(q1 y hy).2; rw [hd] at this; exact this)
   by_cases h2:y.kind = 2
   · have hp:=(bl y hy e he).1 h2
     exact ⟨(hp.less (Nat.le_succ d)).trans (p1 y hy),(hp d (Nat.lt_succ_self d)).trans hb⟩
   rw [(bl y hy e he).2 h2]; exact ⟨p1 y hy,hb⟩
 rcases hr.live with h0 | ⟨y,hy⟩
 · rw [h0] at hr; rw [hr.zero_nil hf.zero] at he; cases he
 have hb:kbit y.key d = 1:=bit_of hlt (by have:=(q2 y hy).2; rw [hd] at this; exact this)
 by_cases h2:y.kind = 2
 · have hp:=(br y hy e he).1 h2
   exact ⟨(hp.less (Nat.le_succ d)).trans (p2 y hy),(hp d (Nat.lt_succ_self d)).trans hb⟩
 rw [(br y hy e he).2 h2]; exact ⟨p2 y hy,hb⟩
theorem Rep.slot {f:View} {h:Int} {d:Nat} {t:Tr} (hr:Rep f h d t):∀ e ∈ t.ents,∃ k n,f k = some n ∧ n.key = e.1:=by
 induction hr with
 | nil => exact fun e he => by cases he
 | leaf hn hk =>
  intro e he
  obtain rfl:=List.mem_singleton.1 he
  exact ⟨_,_,hn,rfl⟩
 | node _ _ _ _ _ ihl ihr => exact fun e he => (List.mem_append.1 he).elim (ihl e) (ihr e)
theorem ents_le {σ:SlabSt Nd} (G:Good σ) {h:Int} {d:Nat} {t:Tr} (hr:Rep (sk σ) h d t):t.ents.length ≤ σ.slots.length:=by
 have hs:=hr.slot
 have hp:=(hr.ents G.fit).2.2
 have hch:∃ g:List UInt8 × List UInt8 → Int,∀ e ∈ t.ents,∃ n,sk σ (g e) = some n ∧ n.key = e.1:=by
  refine ⟨fun e => if he:e ∈ t.ents then Classical.choose (hs e he) else 0,fun e he => ?_⟩
  simp only [dif_pos he]
  exact Classical.choose_spec (hs e he)
 obtain ⟨g,hg⟩:=hch
 have hnd:(t.ents.map (fun e => (g e).toNat)).Nodup:=by
  rw [List.Nodup,List.pairwise_map]
  refine hp.imp_of_mem ?_
  intro a b ha hb hlt e
  obtain ⟨n,hn,hnk⟩:=hg a ha
  obtain ⟨m,hm,hmk⟩:=hg b hb
  obtain ⟨x,hx,_⟩:=sk_get hn
  obtain ⟨y,hy,_⟩:=sk_get hm
  obtain ⟨i,hi,_⟩:=SlabSt.get?_some hx
  obtain ⟨j,hj,_⟩:=SlabSt.get?_some hy
  have:g a = g b:=by omega
  rw [this,hm] at hn
  cases hn
  unfold Ltk at hlt
  rw [← hnk, ← hmk,cmp_self] at hlt
  omega
 have hsub:∀ x ∈ t.ents.map (fun e => (g e).toNat),x ∈ List.range' 1 σ.slots.length:=fun x hx => by
  obtain ⟨e,he,rfl⟩:=List.mem_map.1 hx
  obtain ⟨n,hn,_⟩:=hg e he
  obtain ⟨y,hy,_⟩:=sk_get hn
  obtain ⟨i,hi,_,_,hlt⟩:=SlabSt.get?_some hy
  simp only [List.mem_range'_1]
  omega
 have:=nodup_length_le _ _ hnd hsub
 simpa using this
theorem sides_perm (d:Nat):∀ L:Ents,(sideE 0 d L ++ sideE 1 d L).Perm L
 | [] => .refl _
 | p :: L => by
  have ih:=sides_perm d L
  unfold sideE at ih ⊢
  rw [List.filter_cons,List.filter_cons]
  rcases kbit_cases p.1 d with h | h
  · simp only [h]
    exact ih.cons p
  simp only [h]
  exact List.perm_middle.trans (ih.cons p)
theorem ents_tree:∀ m,m ≤ 256 → ∀ {L:Ents} {k:List UInt8},L.Ok k (256 - m) → (tree m L).ents.Perm L:=by
 intro m
 induction m with
 | zero =>
  intro _ L k hO
  match L,hO.few with
  | [],_ => exact .refl _
  | [p],_ => exact .refl _
  | _ :: _ :: _,hf => simp at hf
 | succ m ih =>
  intro hm L k hO
  by_cases h2:2 ≤ L.length
  · rw [tree_two h2]
    obtain ⟨k0,o0⟩:=sides_ok hO 0
    obtain ⟨k1,o1⟩:=sides_ok hO 1
    rw [show 256 - (m + 1) + 1 = 256 - m by omega,show 256 - (m + 1) = 255 - m by omega] at o0 o1
    exact ((ih (by omega) o0).append (ih (by omega) o1)).trans (sides_perm _ L)
  match L,h2 with
  | [],_ => exact .refl _
  | [p],_ => exact .refl _
  | _ :: _ :: _,h2 => exact absurd (by simp) h2
theorem Db.ents {σ:SlabSt Nd} {root:Int} {L:Ents} (D:Db σ root L):(tree 256 L).ents.Perm L:=ents_tree 256 (Nat.le_refl _) (k := []) (Ents.Ok.any D.nodup D.len [])
def geK (key:List UInt8) (e:List UInt8 × List UInt8):Bool := !decide (Lib.compareBytes e.1 key < 0)
def Tr.from (t:Tr) (key:List UInt8):Ents:=t.ents.filter (geK key)
end Go.Proofs.YtmeglndnkdgkoaaGreat.Store
namespace Go.Proofs.YtmeglndnkdgkoaaGreat
open Go Go.RowKit
def flatA (l:List (Array Value)):List Value:=l.flatMap Array.toList
section
variable {n : Nat} {l : List (Array Value)} {i j : Nat} {a b : Array Value}
theorem flatA_append (l m:List (Array Value)):flatA (l ++ m) = flatA l ++ flatA m:=by simp [flatA]
theorem flatA_one (a:Array Value):flatA [a] = a.toList:=by simp [flatA]
theorem flatA_length:∀ (l:List (Array Value)),(∀ a ∈ l,a.size = n) → (flatA l).length = l.length * n
 | [],_ => by simp [flatA]
 | a :: l,h => by
  have ih:=flatA_length l (fun x hx => h x (List.mem_cons_of_mem _ hx))
  have h0:=h a (List.mem_cons_self ..)
  rw [show a :: l = [a] ++ l from rfl,flatA_append,flatA_one,List.length_append,ih,Array.length_toList,h0,List.length_append,List.length_singleton,Nat.add_mul]
  omega
theorem flatA_take_length (h:∀ a ∈ l,a.size = n) (hi:i ≤ l.length):(flatA (l.take i)).length = i * n:=by
 rw [flatA_length (n:=n) _ (fun s hs => h s (List.mem_of_mem_take hs)),List.length_take,Nat.min_eq_left hi]
theorem flatA_split (hi:l[i]? = some a):flatA l = flatA (l.take i) ++ (a.toList ++ flatA (l.drop (i + 1))):=by
 obtain ⟨hlt,he⟩:=List.getElem?_eq_some_iff.1 hi
 conv => lhs; rw [← List.take_append_drop i l,List.drop_eq_getElem_cons hlt,he]
 rw [flatA_append,show a :: l.drop (i + 1) = [a] ++ l.drop (i + 1) from rfl,flatA_append,flatA_one]
theorem flatA_at (h:∀ a ∈ l,a.size = n) (hi:l[i]? = some a) (hj:j < n):(flatA l)[i * n + j]? = a[j]?:=by
 have hlt:=(List.getElem?_eq_some_iff.1 hi).1
 have ha:=h a (List.mem_of_getElem? hi)
 have ht:=flatA_take_length h (i:=i) (by omega)
 rw [flatA_split hi,List.getElem?_append_right (by omega),ht,show i * n + j - i * n = j by omega,List.getElem?_append_left (by rw [Array.length_toList]; omega),Array.getElem?_toList]
theorem flatA_part (h:∀ a ∈ l,a.size = n) (hi:l[i]? = some a):((flatA l).drop (i * n)).take n = a.toList:=by
 have hlt:=(List.getElem?_eq_some_iff.1 hi).1
 have ha:=h a (List.mem_of_getElem? hi)
 have ht:=flatA_take_length h (i:=i) (by omega)
 rw [flatA_split hi,List.drop_append_of_le_length (by omega),List.drop_eq_nil_of_le (by omega),List.nil_append,List.take_append_of_le_length (by rw [Array.length_toList]; omega),List.take_of_length_le (by rw [Array.length_toList]; omega)]
theorem flatA_set (h:∀ a ∈ l,a.size = n) (hi:l[i]? = some a) (hj:j < n) (v:Value):(flatA l).set (i * n + j) v = flatA (l.set i (a.setIfInBounds j v)):=by
 have hlt:=(List.getElem?_eq_some_iff.1 hi).1
 have ha:=h a (List.mem_of_getElem? hi)
 have ht:=flatA_take_length h (i:=i) (by omega)
 rw [flatA_split (l:=l.set i (a.setIfInBounds j v)) (i:=i) (a:=a.setIfInBounds j v) (by rw [List.getElem?_set_self hlt]),flatA_split hi,List.set_append_right _ _ (by omega),ht,show i * n + j - i * n = j by omega,
  List.set_append_left _ _ (by rw [Array.length_toList]; omega),Array.toList_setIfInBounds,List.take_set_of_le (Nat.le_refl _),List.drop_set_of_lt (Nat.lt_succ_self _)]
theorem flatA_splice (h:∀ a ∈ l,a.size = n) (hi:i < l.length) (hb:b.size = n):splice (flatA l) (i * n) b.toList = flatA (l.set i b):=by
 have ha:l[i]? = some l[i]:=by simp [hi]
 have hs:=h l[i] (List.getElem_mem hi)
 have ht:=flatA_take_length h (i:=i) (by omega)
 rw [flatA_split (l:=l.set i b) (i:=i) (a:=b) (by rw [List.getElem?_set_self hi]),flatA_split ha,splice]
 have e1:List.take (i * n) (flatA (List.take i l) ++ (l[i].toList ++ flatA (List.drop (i + 1) l))) = flatA (List.take i l):=by
  rw [List.take_append_of_le_length (by omega),List.take_of_length_le (by omega)]
 have e2:List.drop (i * n + b.toList.length) (flatA (List.take i l) ++ (l[i].toList ++ flatA (List.drop (i + 1) l))) = flatA (List.drop (i + 1) l):=by
  rw [List.drop_append,List.drop_eq_nil_of_le (by rw [ht]; omega),List.nil_append,ht,Array.length_toList,hb,show i * n + n - i * n = n by omega,List.drop_append,List.drop_eq_nil_of_le (by rw [Array.length_toList]; omega),List.nil_append,Array.length_toList,hs,Nat.sub_self,List.drop_zero]
 rw [e1,e2,List.take_set_of_le (Nat.le_refl _),List.drop_set_of_lt (Nat.lt_succ_self _),List.append_assoc]
end
end Go.Proofs.YtmeglndnkdgkoaaGreat
namespace Go.Proofs.YtmeglndnkdgkoaaGreat.Store
open Go Go.RowKit Go.Proofs.YtmeglndnkdgkoaaGreat Go.Proofs.YtmeglndnkdgkoaaGreat.ShaW Go.Proofs.YtmeglndnkdgkoaaGreat.Path
structure Sp where
 kind:Nat
 d:Int
 key:List UInt8
 addr:Value
 value:List UInt8
 left:Int
 right:Int
 own:Int
 sides:Int
namespace Sp
def zero:Sp:=⟨0,0,Nd.z32,.slice none 0 0,[],0,0,0,0⟩
def cells (x:Sp):Array Value:=(.int .u8 (x.kind:Nat) :: .int .i64 x.d :: (x.key.map bv ++ [x.addr,.int .i64 x.left,.int .i64 x.right,.int .i64 x.own,.int .i64 x.sides])).toArray
structure Ok (x:Sp):Prop where
 key:x.key.length = 32
 addr:∃ ao len cap,x.addr = .slice ao len cap
 val:x.value.length ≤ 1024
theorem zero_ok:zero.Ok:=⟨rfl,⟨none,0,0,rfl⟩,by decide⟩
variable {x : Sp}
theorem cells_list:x.cells.toList = .int .u8 (x.kind:Nat) :: .int .i64 x.d :: (x.key.map bv ++ [x.addr,.int .i64 x.left,.int .i64 x.right,.int .i64 x.own,.int .i64 x.sides]):=rfl
theorem cells_size (h:x.Ok):x.cells.size = 39:=by simp [cells,h.key]
theorem cells_one (h:x.Ok):∀ v ∈ x.cells.toList,v.oneCell' = true:=by
 obtain ⟨ao,len,cap,ha⟩:=h.addr
 intro v hv
 rw [cells_list] at hv
 simp only [List.mem_cons,List.mem_append,List.mem_map,List.not_mem_nil,or_false] at hv
 rcases hv with rfl | rfl | ⟨b,_,rfl⟩ | rfl | rfl | rfl | rfl | rfl
 · rfl
 · rfl
 · rfl
 · rw [ha]; rfl
 · rfl
 · rfl
 · rfl
 rfl
theorem at_kind:x.cells[0]? = some (.int .u8 (x.kind:Nat)):=rfl
theorem at_d:x.cells[1]? = some (.int .i64 x.d):=rfl
theorem end_of (h:x.Ok) (i:Nat):x.cells[34 + i]? = [x.addr,Value.int .i64 x.left,.int .i64 x.right,.int .i64 x.own,.int .i64 x.sides][i]?:=by
 rw [← Array.getElem?_toList,cells_list,show 34 + i = (32 + i) + 1 + 1 by omega,List.getElem?_cons_succ,List.getElem?_cons_succ,List.getElem?_append_right (by simp [h.key])]
 simp [h.key]
theorem at_addr (h:x.Ok):x.cells[34]? = some x.addr:=end_of h 0
theorem at_left (h:x.Ok):x.cells[35]? = some (.int .i64 x.left):=end_of h 1
theorem at_right (h:x.Ok):x.cells[36]? = some (.int .i64 x.right):=end_of h 2
theorem at_own (h:x.Ok):x.cells[37]? = some (.int .i64 x.own):=end_of h 3
theorem at_sides (h:x.Ok):x.cells[38]? = some (.int .i64 x.sides):=end_of h 4
theorem at_key (h:x.Ok):x.cells.extract 2 (2 + 32) = brow x.key:=by
 apply Array.ext'
 simp only [Array.toList_extract,List.extract,cells_list,brow]
 simp only [show 2 + 32 - 2 = 32 by rfl,List.drop_succ_cons,List.drop_zero]
 rw [List.take_append_of_le_length (by simp [h.key]),List.take_of_length_le (by simp [h.key])]
def entry (x:Sp):Array Value:=(x.key.map bv ++ [x.addr]).toArray
theorem at_entry (h:x.Ok):x.cells.extract 2 (2 + 33) = x.entry:=by
 apply Array.ext'
 simp only [Array.toList_extract,List.extract,cells_list,entry]
 simp only [show 2 + 33 - 2 = 33 by rfl,List.drop_succ_cons,List.drop_zero]
 rw [List.take_append,List.take_of_length_le (by simp [h.key])]
 simp [h.key]
theorem set_own (h:x.Ok) (n:Int):x.cells.setIfInBounds 37 (.int .i64 n) = ({ x with own:=n }:Sp).cells:=by
 apply Array.ext'
 simp only [Array.toList_setIfInBounds,cells_list]
 simp only [show 37 = 35 + 1 + 1 by rfl,List.set_cons_succ]
 rw [List.set_append_right _ _ (by simp [h.key]),List.length_map,h.key]
 rfl
theorem set_sides (h:x.Ok) (n:Int):x.cells.setIfInBounds 38 (.int .i64 n) = ({ x with sides:=n }:Sp).cells:=by
 apply Array.ext'
 simp only [Array.toList_setIfInBounds,cells_list]
 simp only [show 38 = 36 + 1 + 1 by rfl,List.set_cons_succ]
 rw [List.set_append_right _ _ (by simp [h.key]),List.length_map,h.key]
 rfl
end Sp
structure Rs where
 space:Nat
 spots:List Sp
 free:List Nat
def Rs.sp (ρ:Rs) (h:Int):Sp:=if 1 ≤ h then (match ρ.spots[(h - 1).toNat]? with | some x => if x.kind = 0 then Sp.zero else x | none => Sp.zero) else Sp.zero
def Rs.has (ρ:Rs) (h:Int):Bool:=decide ((ρ.sp h).kind ≠ 0)
def Rs.setAt (ρ:Rs) (m:Nat) (x:Sp):Rs := { ρ with spots:=ρ.spots.set m x }
def SpOf (s:Nd × Nat) (x:Sp):Prop :=
 (s.2 = 0 ∧ x = Sp.zero) ∨ (s.2 ≠ 0 ∧ x.kind = s.1.kind ∧ x.left = s.1.left ∧ x.right = s.1.right ∧ x.value = s.1.value ∧ (s.1.kind = 1 → x.key = s.1.key) ∧ (s.1.kind = 2 → x.d = s.1.depth) ∧ x.own = s.1.held ∧ x.own + x.sides = s.2)
structure Lk (σ:SlabSt Nd) (ρ:Rs):Prop where
 space:ρ.space = σ.room
 free:ρ.free = σ.free
 len:ρ.spots.length = σ.slots.length
 slot:∀ (m:Nat) s x,σ.slots[m]? = some s → ρ.spots[m]? = some x → SpOf s x
section
variable {σ : SlabSt Nd} {ρ : Rs} {h : Int}
theorem kind_ne (G:Good σ) {x:Nd × Nat} (hx:σ.get? h = some x):x.1.kind = 1 ∨ x.1.kind = 2:=by
 by_cases e:x.1.kind = 2
 · exact .inr e
 exact .inl (G.fit.leaf (sk_some hx) e).1
theorem Lk.some (L:Lk σ ρ) (G:Good σ) {s:Nd × Nat} (hs:σ.get? h = Option.some s):∃ (m:Nat) (x:Sp),h = (m:Int) + 1 ∧ m < σ.slots.length ∧ σ.slots[m]? = Option.some s ∧ ρ.spots[m]? = Option.some x ∧ s.2 ≠ 0 ∧ ρ.sp h = x ∧ x.kind = s.1.kind ∧ x.kind ≠ 0 ∧ x.left = s.1.left ∧ x.right = s.1.right ∧ x.value = s.1.value ∧ (s.1.kind = 1 → x.key = s.1.key) ∧ (s.1.kind = 2 → x.d = s.1.depth) ∧ x.own = s.1.held ∧ x.own + x.sides = s.2:=by
 obtain ⟨m,rfl,hm,h0,hlt⟩:=SlabSt.get?_some hs
 have hlr:m < ρ.spots.length:=by rw [L.len]; exact hlt
 have hx:ρ.spots[m]? = Option.some ρ.spots[m]:=List.getElem?_eq_getElem hlr
 have hk:s.1.kind ≠ 0:=by rcases kind_ne G hs with e | e <;> omega
 rcases L.slot m s _ hm hx with ⟨e,_⟩ | ⟨_,h1,h2,h3,h4,h5,h6,h7,h8⟩
 · exact absurd e h0
 refine ⟨m,_,rfl,hlt,hm,hx,h0,?_,h1,by omega,h2,h3,h4,h5,h6,h7,h8⟩
 unfold Rs.sp
 rw [if_pos (by omega),show ((m:Int) + 1 - 1).toNat = m by omega,hx]
 simp only
 rw [if_neg (by omega)]
theorem Lk.none (L:Lk σ ρ) (hs:σ.get? h = Option.none):ρ.sp h = Sp.zero:=by
 rcases SlabSt.get?_none hs with h1 | ⟨m,rfl,h2⟩
 · unfold Rs.sp; rw [if_neg (by omega)]
 unfold Rs.sp
 rw [if_pos (by omega),show ((m:Int) + 1 - 1).toNat = m by omega]
 rcases h2 with h2 | ⟨v,hv⟩
 · rw [List.getElem?_eq_none (by rw [L.len]; exact h2)]
 have hlt:=(List.getElem?_eq_some_iff.1 hv).1
 have hlr:m < ρ.spots.length:=by rw [L.len]; exact hlt
 have hx:ρ.spots[m]? = Option.some ρ.spots[m]:=List.getElem?_eq_getElem hlr
 rw [hx]
 rcases L.slot m _ _ hv hx with ⟨_,e⟩ | ⟨e,_⟩
 · simp only [e]; rfl
 exact absurd rfl e
theorem Lk.has (L:Lk σ ρ) (G:Good σ) (h:Int):ρ.has h = Store.has σ h:=by
 unfold Rs.has
 cases hs:σ.get? h with
 | none => rw [L.none hs,has_none hs]; rfl
 | some s =>
  obtain ⟨m,x,_,_,_,_,_,e,_,h0,_⟩:=L.some G hs
  rw [e,has_some hs]
  simpa using h0
theorem Lk.kind (L:Lk σ ρ) (G:Good σ) (h:Int):(ρ.sp h).kind = (nd σ h).kind:=by
 cases hs:σ.get? h with
 | none => rw [L.none hs,nd_none hs]; rfl
 | some s =>
  obtain ⟨m,x,_,_,_,_,_,e,h1,_⟩:=L.some G hs
  rw [e,nd_some hs,h1]
theorem Lk.left (L:Lk σ ρ) (G:Good σ) (h:Int):(ρ.sp h).left = (nd σ h).left:=by
 cases hs:σ.get? h with
 | none => rw [L.none hs,nd_none hs]; rfl
 | some s =>
  obtain ⟨m,x,_,_,_,_,_,e,_,_,h1,_⟩:=L.some G hs
  rw [e,nd_some hs,h1]
theorem Lk.right (L:Lk σ ρ) (G:Good σ) (h:Int):(ρ.sp h).right = (nd σ h).right:=by
 cases hs:σ.get? h with
 | none => rw [L.none hs,nd_none hs]; rfl
 | some s =>
  obtain ⟨m,x,_,_,_,_,_,e,_,_,_,h1,_⟩:=L.some G hs
  rw [e,nd_some hs,h1]
theorem Lk.value (L:Lk σ ρ) (G:Good σ) (h:Int):(ρ.sp h).value = (nd σ h).value:=by
 cases hs:σ.get? h with
 | none => rw [L.none hs,nd_none hs]; rfl
 | some s =>
  obtain ⟨m,x,_,_,_,_,_,e,_,_,_,_,h1,_⟩:=L.some G hs
  rw [e,nd_some hs,h1]
theorem Lk.own (L:Lk σ ρ) (G:Good σ) (h:Int):(ρ.sp h).own = (nd σ h).held:=by
 cases hs:σ.get? h with
 | none => rw [L.none hs,nd_none hs]; rfl
 | some s =>
  obtain ⟨m,x,_,_,_,_,_,e,_,_,_,_,_,_,_,h1,_⟩:=L.some G hs
  rw [e,nd_some hs,h1]
theorem Lk.count (L:Lk σ ρ) (G:Good σ) (h:Int):(ρ.sp h).own + (ρ.sp h).sides = σ.count h:=by
 cases hs:σ.get? h with
 | none => rw [L.none hs]; unfold SlabSt.count; rw [hs]; rfl
 | some s =>
  obtain ⟨m,x,_,_,_,_,_,e,_,_,_,_,_,_,_,_,h1⟩:=L.some G hs
  rw [e,h1]; unfold SlabSt.count; rw [hs]; rfl
theorem Lk.depth (L:Lk σ ρ) (G:Good σ) (h:Int):(if (ρ.sp h).kind = 2 then (ρ.sp h).d else -1) = if (nd σ h).kind = 2 then (nd σ h).depth else -1:=by
 cases hs:σ.get? h with
 | none => rw [L.none hs,nd_none hs]; rfl
 | some s =>
  obtain ⟨m,x,_,_,_,_,_,e,h1,_,_,_,_,_,h2,_,_⟩:=L.some G hs
  rw [e,nd_some hs,h1]
  by_cases hk:s.1.kind = 2
  · rw [if_pos hk,if_pos hk,h2 hk]
  rw [if_neg hk,if_neg hk]
theorem Lk.new (n:Nat):Lk ⟨n,[],[]⟩ ⟨n,[],[]⟩:=⟨rfl,rfl,rfl,fun m s x hs => by simp at hs⟩
theorem Lk.set (L:Lk σ ρ) {m:Nat} {s:Nd × Nat} {x:Sp} (hx:SpOf s x):Lk { σ with slots:=σ.slots.set m s } { ρ with spots:=ρ.spots.set m x }:=by
 refine ⟨L.space,L.free,by simp [L.len],fun j t y ht hy => ?_⟩
 simp only at ht hy
 by_cases e:m = j
 · subst e
   have h1:=(List.getElem?_eq_some_iff.1 ht).1
   rw [List.length_set] at h1
   rw [List.getElem?_set_self h1] at ht
   rw [List.getElem?_set_self (by rw [L.len]; exact h1)] at hy
   cases ht; cases hy
   exact hx
 rw [List.getElem?_set_ne e] at ht hy
 exact L.slot j t y ht hy
theorem Lk.push (L:Lk σ ρ) {s:Nd × Nat} {x:Sp} (hx:SpOf s x):Lk { σ with slots:=σ.slots ++ [s] } { ρ with spots:=ρ.spots ++ [x] }:=by
 refine ⟨L.space,L.free,by simp [L.len],fun j t y ht hy => ?_⟩
 simp only at ht hy
 by_cases e:j < σ.slots.length
 · rw [List.getElem?_append_left e] at ht
   rw [List.getElem?_append_left (by rw [L.len]; exact e)] at hy
   exact L.slot j t y ht hy
 rw [List.getElem?_append_right (by omega)] at ht
 rw [List.getElem?_append_right (by rw [L.len]; omega),L.len] at hy
 obtain ⟨h1,h2⟩:=List.getElem?_eq_some_iff.1 ht
 have h3:j - σ.slots.length = 0:=by simp at h1; omega
 rw [h3] at ht hy
 simp at ht hy
 subst ht hy
 exact hx
end
end Go.Proofs.YtmeglndnkdgkoaaGreat.Store

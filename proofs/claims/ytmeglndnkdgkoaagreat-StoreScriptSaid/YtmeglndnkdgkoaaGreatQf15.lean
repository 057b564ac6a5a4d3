/- Laws of the layers below. -/
import Derived.Test.YtmeglndnkdgkoaaGreatQf14
import Derived.OwnWalk
import Derived.Laws.BytesArg
set_option maxHeartbeats 3200000
set_option maxRecDepth 100000
set_option linter.unusedVariables false
namespace Go.Proofs.YtmeglndnkdgkoaaGreat.Store
open Go.RowKit Go.Proofs.YtmeglndnkdgkoaaGreat.ShaW Go.Proofs.YtmeglndnkdgkoaaGreat.Path
def Own (w0 w:World) (s:Nat) (σ:SlabSt Nd):Prop := ∃ F,At w s F σ ∧ (∀ k,F k → w0.heap.size ≤ k) ∧ Adds w0 w
variable {w0 w w' : World} {s : Nat} {σ σ' : SlabSt Nd}
def keyL (b:UInt8):List UInt8:=b :: List.replicate 31 0
section
variable {w0 w w' : World} {s : Nat} {σ : SlabSt Nd} {F G : Nat → Prop}
def Ow (w0 w:World) (s:Nat) (σ:SlabSt Nd) (G:Nat → Prop):Prop := ∃ F,At w s F σ ∧ (∀ k,F k → w0.heap.size ≤ k) ∧ Adds w0 w ∧ ∀ k,G k → ¬ F k ∧ k < w.heap.size
abbrev But (G:Nat → Prop) (w w':World):Prop:=Ch (fun k => ¬ G k) w w'
theorem But.row {g:Nat} {o:Obj} (h:But G w w') (hg:w.heap[g]? = some o) (hG:G g):w'.heap[g]? = some o:=Ch.row h hg (fun hn => hn hG)
theorem Ow.moved {σ':SlabSt Nd} (h1:At w s F σ) (h2:∀ k,F k → w0.heap.size ≤ k) (h3:Adds w0 w) (h4:∀ k,G k → ¬ F k ∧ k < w.heap.size) (hm:Moved w w' s F σ'):Ow w0 w' s σ' G ∧ But G w w':=by
 obtain ⟨F',g1,g2,g3⟩:=hm
 refine ⟨⟨F',g1,fun k hk => (g3 k hk).elim (h2 k) (fun h => Nat.le_trans h3.size h),h3.trans g2 (fun k hk => .inr (h2 k hk)),fun k hk => ?_⟩,g2.mono (fun k _ hf hg => (h4 k hg).1 hf)⟩
 obtain ⟨p,q⟩:=h4 k hk
 exact ⟨fun hf => (g3 k hf).elim p (fun h => by omega),Nat.lt_of_lt_of_le q g2.size⟩
theorem Ow.leaf (h:Ow w0 w s σ G) (key:List UInt8) (hk:key.length = 32) {vv:Value} {bs:List UInt8} (hb:Bytes w vv bs) (hv:bs ≠ [] → ∀ k,vv.ownBlock = some k → k < w.heap.size) :
 Calls Tryz.prog 61 #[.pointer (some ⟨s,0,none⟩),.agg (brow key),vv] w fun e w' => ∃ v,e = .returned (.tuple #[.int .i64 (leafS σ key bs v).1,.int .i64 (leafS σ key bs v).2.1]) ∧ Ow w0 w' s (leafS σ key bs v).2.2 G ∧ But G w w':=by
 obtain ⟨F,h1,h2,h3,h4⟩:=h
 exact (Leaf_ok h1 key hk hb hv).mono fun e w' ⟨v,he,hm⟩ => ⟨v,he,Ow.moved h1 h2 h3 h4 hm⟩
theorem Ow.inner (h:Ow w0 w s σ G) (d l r:Int) :
 Calls Tryz.prog 67 #[.pointer (some ⟨s,0,none⟩),.int .i64 d,.int .i64 l,.int .i64 r] w fun e w' => e = .returned (.tuple #[.int .i64 (innerS σ d l r).1,.int .i64 (innerS σ d l r).2.1]) ∧ Ow w0 w' s (innerS σ d l r).2.2 G ∧ But G w w':=by
 obtain ⟨F,h1,h2,h3,h4⟩:=h
 exact (Inner_ok h1 d l r).mono fun e w' ⟨he,hm⟩ => ⟨he,Ow.moved h1 h2 h3 h4 hm⟩
theorem Ow.hold (h:Ow w0 w s σ G) (n:Int) :
 Calls Tryz.prog 65 #[.pointer (some ⟨s,0,none⟩),.int .i64 n] w fun e w' => e = .returned (.int .i64 (holdS σ n).1) ∧ Ow w0 w' s (holdS σ n).2 G ∧ But G w w':=by
 obtain ⟨F,h1,h2,h3,h4⟩:=h
 exact (Hold_ok h1 n).mono fun e w' ⟨he,hm⟩ => ⟨he,Ow.moved h1 h2 h3 h4 hm⟩
theorem Ow.drop (h:Ow w0 w s σ G) (n:Int) :
 Calls Tryz.prog 39 #[.pointer (some ⟨s,0,none⟩),.int .i64 n] w fun e w' => e = .returned (.tuple #[.int .i64 (dropS σ n).1,.int .i64 (dropS σ n).2.1]) ∧ Ow w0 w' s (dropS σ n).2.2 G ∧ But G w w':=by
 obtain ⟨F,h1,h2,h3,h4⟩:=h
 exact (Drop_ok h1 n).mono fun e w' ⟨he,hm⟩ => ⟨he,Ow.moved h1 h2 h3 h4 hm⟩
end
section
variable {w : World} {s : Nat} {σ : SlabSt Nd} {F : Nat → Prop}
def hl (l:List Int):List Value:=l.map fun n => Value.int .i64 n
end
section
variable {w0 w : World} {s : Nat} {σ : SlabSt Nd} {F G : Nat → Prop}
def fitsJ (σ:SlabSt Nd) (j:Int):Bool:=decide (0 ≤ j) && (decide (j ≤ 64) && decide ((σ.used:Int) + 258 * j ≤ σ.room))
theorem At.used_le (h:At w s F σ):σ.used ≤ 65536 ∧ 1 ≤ σ.room ∧ σ.room ≤ 65536:=by
 have h1:=h.len
 have h2:=h.room
 unfold SlabSt.used
 omega
end
theorem owns_form {w:World} {b e n sz:Nat} {v:Value} {xs:List Value} (h:w.ownsRow b e sz v n xs):∃ ao cap,v = .slice ao n cap:=by
 obtain ⟨_,h⟩:=h
 rcases h with ⟨rfl,rfl⟩ | ⟨g,cap,cur,rfl,_⟩
 · exact ⟨_,_,rfl⟩
 exact ⟨_,_,rfl⟩
def bstr (bs:List UInt8):ByteArray:=⟨bs.toArray⟩
theorem bstr_eq (a b:List UInt8):((bstr a).toList == (bstr b).toList) = decide (a = b):=by
 rw [ByteArray.toList_eq,ByteArray.toList_eq]
 by_cases h:a = b
 · subst h; simp
 rw [decide_eq_false h]
 simpa [bstr] using h
theorem conv_bytes {w:World} {v:Value} {bs:List UInt8} (h:Bytes w v bs):(convert 32 9 v).run Tryz.prog w = .ok (.string (bstr bs)) w:=by
 obtain ⟨ao,cap,rfl,h2,h3,h4⟩:=h
 rw [run_convert_bytes_string w 32 9 5 ao bs.length cap Tryz.underlying32 Tryz.underlying5 Tryz.underlying9]
 cases ao with
 | none =>
  cases bs with
  | nil => simp [Conv.bytesToString]; rfl
  | cons x bs => obtain ⟨g,off,h,_⟩:=h4 0 x rfl; cases h
 | some a =>
  have hl:(loadCells a bs.length).run Tryz.prog w = .ok ((bs.map fun b => (b.toNat:Int)).map (Value.int .u8)).toArray w:=by
   have:=run_loadCells_list (P:=Tryz.prog) w a (bs.map bv) (fun j v hj => by
    simp only [List.getElem?_map,Option.map_eq_some_iff] at hj
    obtain ⟨x,hx,rfl⟩:=hj
    obtain ⟨g,off,ha,hc⟩:=h4 j x hx
    cases ha
    rw [add_plain]
    exact hc)
   rw [List.length_map] at this
   rw [this,List.map_map]
   rfl
  rw [run_bytesToString w a bs.length cap _ hl,foldl_push_bytes]
  simp only [List.map_map]
  have e:(List.map ((fun n:Int => UInt8.ofNat n.toNat) ∘ fun b:UInt8 => (b.toNat:Int)) bs) = bs:=by
   rw [show ((fun n:Int => UInt8.ofNat n.toNat) ∘ fun b:UInt8 => (b.toNat:Int)) = id from funext fun b => by simp]
   exact List.map_id bs
  rw [e]
  first
   | (simp [bstr,ByteArray.empty,ByteArray.emptyWithCapacity]; done)
   | (simp [bstr,ByteArray.empty,ByteArray.emptyWithCapacity]; rfl)
theorem plan_convert {P:Program} {S:World → Prop} {Q:Exit → Act → World → Prop} {l:List Oper} {n i:Nat} {r:List (Nat × Bool)} {a:Act} {w:World} {o:Oper} (ho:l[i]? = some o) (hw:Region.wanted o (yielded l.toArray a.tmps) = true) (t1 t2:TypeId) (x:Operand) (u:Value) (hop:o.op = .convert t1 t2 x) (vx:Value) (hx:a.eval x = vx)
 (hy:∀ w0,S w0 → (convert t1 t2 vx).run P w0 = .ok u w0) (h:wpPlan P l Q S n r (a.put o.dst u) w):wpPlan P l Q S n ((i,false) :: r) a w :=
 plan_look ho hw (fun w0 hS => by
  unfold execOp
  simp only [hop,hx,Sem.run_bind,hy w0 hS,Result.andThen_ok]
  rfl) h
def FindAt (w w3:World) (ao:Option Addr) (cap:Nat) (l:List Int) (e1:Int) (K:Array Value) (x y:Bool):Prop :=
 w3.heap[w.heap.size + 1]? = some (.cells #[.slice ao l.length cap,.int .i64 e1,.bool x,.bool y] 215 (0,0)) ∧
 w3.heap[w.heap.size]? = some (.cells K 31 (0,0)) ∧ Adds w w3 ∧ w3.ownsRow w.heap.size 3 1 (.slice ao l.length cap) l.length (hl l) ∧ ∀ k,(Value.slice ao l.length cap).ownBlock = some k → w.heap.size + 2 ≤ k

def NoStore (w:World) (v:Value):Prop:=v = .pointer none ∨ ∃ s,v = .pointer (some ⟨s,0,none⟩) ∧ w.heap[s]? = some (.cells #[.pointer none] 111 (0,0))
def nodeZ:Array Value:=(List.replicate 129 (Value.int .u8 0)).toArray
theorem nodeZ_facts:(Tryz.prog.info? 212).bind (·.zero) = some (.agg nodeZ) ∧ (Tryz.prog.info? 212).map (·.size) = some 129 ∧ Tryz.prog.built 212 [] = some nodeZ:=⟨by kernel_rfl,by kernel_rfl,by kernel_rfl⟩
theorem nodeZ_one:∀ v ∈ nodeZ.toList,v.oneCell' = true:=fun v hv => by
 simp [nodeZ] at hv
 subst hv
 rfl
section
variable {w0 w : World} {s : Nat} {σ : SlabSt Nd} {F G : Nat → Prop}
def PutAt (b0 pb:Nat) (K:Array Value) (ao:Option Addr) (cap:Nat) (l:List Int) (e1:Int) (x y:Bool) (w:World):Prop :=
 w.heap[pb]? = some (.cells #[.slice ao l.length cap,.int .i64 e1,.bool x,.bool y] 215 (0,0)) ∧
 w.heap[b0]? = some (.cells K 31 (0,0)) ∧ w.ownsRow 0 3 1 (.slice ao l.length cap) l.length (hl l)
def PutG (G:Nat → Prop) (b0 pb:Nat) (ao:Option Addr) (n cap:Nat) (k:Nat):Prop:=G k ∨ k = b0 ∨ k = pb ∨ (Value.slice ao n cap).ownBlock = some k
theorem But.less {G':Nat → Prop} {w w':World} (h:But G' w w') (hG:∀ k,G k → G' k):But G w w':=h.mono (fun k _ hn hg => hn (hG k hg))
end
section
variable {w0 w : World} {s : Nat} {σ σ' : SlabSt Nd} {F G : Nat → Prop} {root r : Int} {t : Tr} {L : Ents} {key bs : List UInt8}
structure Db (σ:SlabSt Nd) (root:Int) (L:Ents):Prop where
 good:Good σ
 rep:Rep (sk σ) root 0 (tree 256 L)
 nodup:(keysOf L).Nodup
 len:∀ p ∈ L,p.1.length = 32
 held:root = 0 ∨ 1 ≤ held σ root
def Sole (σ:SlabSt Nd) (root:Int):Prop := ∀ k,1 ≤ held σ k → k = root ∧ held σ k = 1
structure Wrote (σ σ':SlabSt Nd) (root r:Int) (n:Nat):Prop where
 ne:r ≠ 0
 mine:held σ' r = 1 ∨ (r = root ∧ held σ' r = held σ root)
 only:∀ k,1 ≤ held σ' k → k = r ∨ (1 ≤ held σ k ∧ (k = root → 2 ≤ held σ k))
 others:∀ k,k ≠ root → 1 ≤ held σ k → sk σ' k = sk σ k ∧ held σ' k = held σ k
 live:Store.live σ' ≤ Store.live σ + n
 total:Store.total σ' ≤ Store.total σ + 600
 room:σ'.room = σ.room
 fresh:r = root ∨ sk σ r = none
 span:σ'.slots.length ≤ σ.slots.length + n
 keeps:∀ k d t,k ≠ root → 1 ≤ held σ k → Rep (sk σ) k d t → Rep (sk σ') k d t
end
end Go.Proofs.YtmeglndnkdgkoaaGreat.Store
namespace Go.Proofs.YtmeglndnkdgkoaaGreat.Path
open Go.RowKit
def keptL (x:UInt8) (keep:Int):UInt8:=if keep ≤ 0 then 255 else if keep < 8 then UInt8.ofNat (x.toNat / 2 ^ (8 - keep.toNat) * 2 ^ (8 - keep.toNat) + (2 ^ (8 - keep.toNat) - 1)) else x
def lastFrom (d:Int):Int → List UInt8 → List UInt8
 | _,[] => []
 | i,x :: l => keptL x (d - 8 * i) :: lastFrom d (i + 1) l
def last (k:List UInt8) (d:Int):List UInt8:=lastFrom d 0 k
def upToL (k:List UInt8) (d:Int) (i:Nat):List UInt8:=(last k d).take i ++ k.drop i
end Go.Proofs.YtmeglndnkdgkoaaGreat.Path
namespace Go.Proofs.YtmeglndnkdgkoaaGreat.Store
open Go.RowKit Go.Proofs.YtmeglndnkdgkoaaGreat.ShaW Go.Proofs.YtmeglndnkdgkoaaGreat.Path
def Tr.ents:Tr → Ents
 | .nil => []
 | .leaf k v => [(k,v)]
 | .node l r => l.ents ++ r.ents
theorem Tr.ents_length:∀ t:Tr,t.ents.length = t.leaves
 | .nil => rfl
 | .leaf _ _ => rfl
 | .node l r => by
  show (l.ents ++ r.ents).length = l.leaves + r.leaves
  rw [List.length_append,l.ents_length,r.ents_length]
def Ltk (p q:List UInt8 × List UInt8):Prop:=Lib.compareBytes p.1 q.1 < 0
theorem Rep.zero_nil {f:View} (hz:f 0 = none) {d:Nat} {t:Tr} (hr:Rep f 0 d t):t = .nil:=by
 cases hr with
 | nil => rfl
 | leaf hn _ => rw [hz] at hn; cases hn
 | node hn _ _ _ _ => rw [hz] at hn; cases hn
theorem Rep.ents {f:View} (hf:Fit f) {h:Int} {d:Nat} {t:Tr} (hr:Rep f h d t) :
 (∀ e ∈ t.ents,e.1.length = 32 ∧ e.2.length ≤ 1024) ∧ (∀ n,f h = some n → ∀ e ∈ t.ents,(n.kind = 2 → Pre e.1 n.key d) ∧ (n.kind ≠ 2 → e.1 = n.key)) ∧ t.ents.Pairwise Ltk:=by
 induction hr with
 | nil => exact ⟨fun e he => (by cases he),fun n hn => (by rw [hf.zero] at hn; cases hn),List.Pairwise.nil⟩
 | @leaf h d n hn hk =>
  obtain ⟨_,ho⟩:=hf.leaf hn (by omega)
  refine ⟨fun e he => ?_,fun m hm e he => ?_,List.pairwise_singleton _ _⟩
  · obtain rfl:=List.mem_singleton.1 he
    exact ⟨ho.key,ho.value⟩
  obtain rfl:=List.mem_singleton.1 he
  rw [hn] at hm
  cases hm
  exact ⟨fun h2 => absurd h2 (by omega),fun _ => rfl⟩
 | @node h d n l r hn hk hd hl hr ihl ihr =>
  obtain ⟨al,bl,cl⟩:=ihl
  obtain ⟨ar,br,cr⟩:=ihr
  obtain ⟨p1,p2⟩:=hf.pre hn hk hd (k:=n.key) (fun _ _ => rfl)
  obtain ⟨q1,q2⟩:=hf.kids hn hk
  have hd1:=(hf.inner hn hk).d1
  have hlt:d < 256:=by omega
  have left:∀ e ∈ l.ents,Pre e.1 n.key d ∧ kbit e.1 d = 0:=fun e he => by
   rcases hl.live with h0 | ⟨y,hy⟩
   · rw [h0] at hl; rw [hl.zero_nil hf.zero] at he; cases he
   have hb:kbit y.key d = 0:=bit_of hlt (by have:=(q1 y hy).2; rw [hd] at this; exact this)
   by_cases h2:y.kind = 2
   · have hp:=(bl y hy e he).1 h2
     exact ⟨(hp.less (Nat.le_succ d)).trans (p1 y hy),(hp d (Nat.lt_succ_self d)).trans hb⟩
   rw [(bl y hy e he).2 h2]; exact ⟨p1 y hy,hb⟩
  have right:∀ e ∈ r.ents,Pre e.1 n.key d ∧ kbit e.1 d = 1:=fun e he => by
   rcases hr.live with h0 | ⟨y,hy⟩
   · rw [h0] at hr; rw [hr.zero_nil hf.zero] at he; cases he
   have hb:kbit y.key d = 1:=bit_of hlt (by have:=(q2 y hy).2; rw [hd] at this; exact this)
   by_cases h2:y.kind = 2
   · have hp:=(br y hy e he).1 h2
     exact ⟨(hp.less (Nat.le_succ d)).trans (p2 y hy),(hp d (Nat.lt_succ_self d)).trans hb⟩
   rw [(br y hy e he).2 h2]; exact ⟨p2 y hy,hb⟩
  refine ⟨fun e he => (List.mem_append.1 he).elim (al e) (ar e),fun m hm e he => ?_,List.pairwise_append.2 ⟨cl,cr,fun a ha b hb => ?_⟩⟩
  · rw [hn] at hm
    cases hm
    exact ⟨fun _ => (List.mem_append.1 he).elim (fun h => (left e h).1) (fun h => (right e h).1),fun h2 => absurd hk h2⟩
  obtain ⟨a1,a2⟩:=left a ha
  obtain ⟨b1,b2⟩:=right b hb
  unfold Ltk
  rw [cmp_bits a.1 b.1 d (by rw [(al a ha).1,(ar b hb).1]) (by rw [(al a ha).1]; omega) (a1.trans b1.symm) a2 b2]
  decide
theorem Rep.sides {f:View} (hf:Fit f) {h:Int} {d:Nat} {n:Nd} {l r:Tr} (hn:f h = some n) (hk:n.kind = 2) (hd:n.depth = (d:Nat)) (hl:Rep f n.left (d + 1) l) (hr:Rep f n.right (d + 1) r) :
 (∀ e ∈ l.ents,Pre e.1 n.key d ∧ kbit e.1 d = 0) ∧ (∀ e ∈ r.ents,Pre e.1 n.key d ∧ kbit e.1 d = 1):=by
 obtain ⟨_,bl,_⟩:=hl.ents hf
 obtain ⟨_,br,_⟩:=hr.ents hf
 obtain ⟨p1,p2⟩:=hf.pre hn hk hd (k:=n.key) (fun _ _ => rfl)
 obtain ⟨q1,q2⟩:=hf.kids hn hk
 have hd1:=(hf.inner hn hk).d1
 have hlt:d < 256:=by omega
 refine ⟨fun e he => ?_,fun e he => ?_⟩
 · rcases hl.live with h0 | ⟨y,hy⟩
   · rw [h0] at hl; rw [hl.zero_nil hf.zero] at he; cases he
   have hb:kbit y.key d = 0:=bit_of hlt (by have:=(q1 y hy).2; rw [hd] at this; exact this)
   by_cases h2:y.kind = 2
   · have hp:=(bl y hy e he).1 h2
     exact ⟨(hp.less (Nat.le_succ d)).trans (p1 y hy),(hp d (Nat.lt_succ_self d)).trans hb⟩
   rw [(bl y hy e he).2 h2]; exact ⟨p1 y hy,hb⟩
 rcases hr.live with h0 | ⟨y,hy⟩
 · rw [h0] at hr; rw [hr.zero_nil hf.zero] at he; cases he
 have hb:kbit y.key d = 1:=bit_of hlt (by have:=(q2 y hy).2; rw [hd] at this; exact this)
 by_cases h2:y.kind = 2
 · have hp:=(br y hy e he).1 h2
   exact ⟨(hp.less (Nat.le_succ d)).trans (p2 y hy),(hp d (Nat.lt_succ_self d)).trans hb⟩
 rw [(br y hy e he).2 h2]; exact ⟨p2 y hy,hb⟩
theorem Rep.slot {f:View} {h:Int} {d:Nat} {t:Tr} (hr:Rep f h d t):∀ e ∈ t.ents,∃ k n,f k = some n ∧ n.key = e.1:=by
 induction hr with
 | nil => exact fun e he => by cases he
 | leaf hn hk =>
  intro e he
  obtain rfl:=List.mem_singleton.1 he
  exact ⟨_,_,hn,rfl⟩
 | node _ _ _ _ _ ihl ihr => exact fun e he => (List.mem_append.1 he).elim (ihl e) (ihr e)
theorem ents_le {σ:SlabSt Nd} (G:Good σ) {h:Int} {d:Nat} {t:Tr} (hr:Rep (sk σ) h d t):t.ents.length ≤ σ.slots.length:=by
 have hs:=hr.slot
 have hp:=(hr.ents G.fit).2.2
 have hch:∃ g:List UInt8 × List UInt8 → Int,∀ e ∈ t.ents,∃ n,sk σ (g e) = some n ∧ n.key = e.1:=by
  refine ⟨fun e => if he:e ∈ t.ents then Classical.choose (hs e he) else 0,fun e he => ?_⟩
  simp only [dif_pos he]
  exact Classical.choose_spec (hs e he)
 obtain ⟨g,hg⟩:=hch
 have hnd:(t.ents.map (fun e => (g e).toNat)).Nodup:=by
  rw [List.Nodup,List.pairwise_map]
  refine hp.imp_of_mem ?_
  intro a b ha hb hlt e
  obtain ⟨n,hn,hnk⟩:=hg a ha
  obtain ⟨m,hm,hmk⟩:=hg b hb
  obtain ⟨x,hx,_⟩:=sk_get hn
  obtain ⟨y,hy,_⟩:=sk_get hm
  obtain ⟨i,hi,_⟩:=SlabSt.get?_some hx
  obtain ⟨j,hj,_⟩:=SlabSt.get?_some hy
  have:g a = g b:=by omega
  rw [this,hm] at hn
  cases hn
  unfold Ltk at hlt
  rw [← hnk, ← hmk,cmp_self] at hlt
  omega
 have hsub:∀ x ∈ t.ents.map (fun e => (g e).toNat),x ∈ List.range' 1 σ.slots.length:=fun x hx => by
  obtain ⟨e,he,rfl⟩:=List.mem_map.1 hx
  obtain ⟨n,hn,_⟩:=hg e he
  obtain ⟨y,hy,_⟩:=sk_get hn
  obtain ⟨i,hi,_,_,hlt⟩:=SlabSt.get?_some hy
  simp only [List.mem_range'_1]
  omega
 have:=nodup_length_le _ _ hnd hsub
 simpa using this
def geK (key:List UInt8) (e:List UInt8 × List UInt8):Bool := !decide (Lib.compareBytes e.1 key < 0)
def ltK (key:List UInt8) (e:List UInt8 × List UInt8):Bool:=decide (Lib.compareBytes e.1 key < 0)
def Tr.from (t:Tr) (key:List UInt8):Ents:=t.ents.filter (geK key)
def Tr.rank (t:Tr) (key:List UInt8):Nat:=(t.ents.filter (ltK key)).length
def nextK:List UInt8 → List UInt8 × Bool
 | [] => ([],false)
 | x :: l => if (nextK l).2 = true then (x :: (nextK l).1,true) else if x = 255 then (0 :: (nextK l).1,false) else ((x + 1) :: (nextK l).1,true)
end Go.Proofs.YtmeglndnkdgkoaaGreat.Store
namespace Go.Proofs.YtmeglndnkdgkoaaGreat
open Go.RowKit
def flatA (l:List (Array Value)):List Value:=l.flatMap Array.toList
section
variable {n : Nat} {l : List (Array Value)} {i j : Nat} {a b : Array Value}
theorem flatA_append (l m:List (Array Value)):flatA (l ++ m) = flatA l ++ flatA m:=by simp [flatA]
theorem flatA_one (a:Array Value):flatA [a] = a.toList:=by simp [flatA]
theorem flatA_length:∀ (l:List (Array Value)),(∀ a ∈ l,a.size = n) → (flatA l).length = l.length * n
 | [],_ => by simp [flatA]
 | a :: l,h => by
  have ih:=flatA_length l (fun x hx => h x (List.mem_cons_of_mem _ hx))
  have h0:=h a (List.mem_cons_self ..)
  rw [show a :: l = [a] ++ l from rfl,flatA_append,flatA_one,List.length_append,ih,Array.length_toList,h0,List.length_append,List.length_singleton,Nat.add_mul]
  omega
theorem flatA_take_length (h:∀ a ∈ l,a.size = n) (hi:i ≤ l.length):(flatA (l.take i)).length = i * n:=by
 rw [flatA_length (n:=n) _ (fun s hs => h s (List.mem_of_mem_take hs)),List.length_take,Nat.min_eq_left hi]
theorem flatA_split (hi:l[i]? = some a):flatA l = flatA (l.take i) ++ (a.toList ++ flatA (l.drop (i + 1))):=by
 obtain ⟨hlt,he⟩:=List.getElem?_eq_some_iff.1 hi
 conv => lhs; rw [← List.take_append_drop i l,List.drop_eq_getElem_cons hlt,he]
 rw [flatA_append,show a :: l.drop (i + 1) = [a] ++ l.drop (i + 1) from rfl,flatA_append,flatA_one]
theorem flatA_at (h:∀ a ∈ l,a.size = n) (hi:l[i]? = some a) (hj:j < n):(flatA l)[i * n + j]? = a[j]?:=by
 have hlt:=(List.getElem?_eq_some_iff.1 hi).1
 have ha:=h a (List.mem_of_getElem? hi)
 have ht:=flatA_take_length h (i:=i) (by omega)
 rw [flatA_split hi,List.getElem?_append_right (by omega),ht,show i * n + j - i * n = j by omega,List.getElem?_append_left (by rw [Array.length_toList]; omega),Array.getElem?_toList]
theorem flatA_part (h:∀ a ∈ l,a.size = n) (hi:l[i]? = some a):((flatA l).drop (i * n)).take n = a.toList:=by
 have hlt:=(List.getElem?_eq_some_iff.1 hi).1
 have ha:=h a (List.mem_of_getElem? hi)
 have ht:=flatA_take_length h (i:=i) (by omega)
 rw [flatA_split hi,List.drop_append_of_le_length (by omega),List.drop_eq_nil_of_le (by omega),List.nil_append,List.take_append_of_le_length (by rw [Array.length_toList]; omega),List.take_of_length_le (by rw [Array.length_toList]; omega)]
theorem flatA_set (h:∀ a ∈ l,a.size = n) (hi:l[i]? = some a) (hj:j < n) (v:Value):(flatA l).set (i * n + j) v = flatA (l.set i (a.setIfInBounds j v)):=by
 have hlt:=(List.getElem?_eq_some_iff.1 hi).1
 have ha:=h a (List.mem_of_getElem? hi)
 have ht:=flatA_take_length h (i:=i) (by omega)
 rw [flatA_split (l:=l.set i (a.setIfInBounds j v)) (i:=i) (a:=a.setIfInBounds j v) (by rw [List.getElem?_set_self hlt]),flatA_split hi,List.set_append_right _ _ (by omega),ht,show i * n + j - i * n = j by omega,
  List.set_append_left _ _ (by rw [Array.length_toList]; omega),Array.toList_setIfInBounds,List.take_set_of_le (Nat.le_refl _),List.drop_set_of_lt (Nat.lt_succ_self _)]
theorem flatA_splice (h:∀ a ∈ l,a.size = n) (hi:i < l.length) (hb:b.size = n):splice (flatA l) (i * n) b.toList = flatA (l.set i b):=by
 have ha:l[i]? = some l[i]:=by simp [hi]
 have hs:=h l[i] (List.getElem_mem hi)
 have ht:=flatA_take_length h (i:=i) (by omega)
 rw [flatA_split (l:=l.set i b) (i:=i) (a:=b) (by rw [List.getElem?_set_self hi]),flatA_split ha,splice]
 have e1:List.take (i * n) (flatA (List.take i l) ++ (l[i].toList ++ flatA (List.drop (i + 1) l))) = flatA (List.take i l):=by
  rw [List.take_append_of_le_length (by omega),List.take_of_length_le (by omega)]
 have e2:List.drop (i * n + b.toList.length) (flatA (List.take i l) ++ (l[i].toList ++ flatA (List.drop (i + 1) l))) = flatA (List.drop (i + 1) l):=by
  rw [List.drop_append,List.drop_eq_nil_of_le (by rw [ht]; omega),List.nil_append,ht,Array.length_toList,hb,show i * n + n - i * n = n by omega,List.drop_append,List.drop_eq_nil_of_le (by rw [Array.length_toList]; omega),List.nil_append,Array.length_toList,hs,Nat.sub_self,List.drop_zero]
 rw [e1,e2,List.take_set_of_le (Nat.le_refl _),List.drop_set_of_lt (Nat.lt_succ_self _),List.append_assoc]
end
end Go.Proofs.YtmeglndnkdgkoaaGreat
namespace Go.Proofs.YtmeglndnkdgkoaaGreat.Store
open Go.RowKit Go.Proofs.YtmeglndnkdgkoaaGreat.ShaW Go.Proofs.YtmeglndnkdgkoaaGreat.Path
structure Sp where
 kind:Nat
 d:Int
 key:List UInt8
 addr:Value
 value:List UInt8
 left:Int
 right:Int
 own:Int
 sides:Int
namespace Sp
def zero:Sp:=⟨0,0,Nd.z32,.slice none 0 0,[],0,0,0,0⟩
def cells (x:Sp):Array Value:=(.int .u8 (x.kind:Nat) :: .int .i64 x.d :: (x.key.map bv ++ [x.addr,.int .i64 x.left,.int .i64 x.right,.int .i64 x.own,.int .i64 x.sides])).toArray
structure Ok (x:Sp):Prop where
 key:x.key.length = 32
 addr:∃ ao len cap,x.addr = .slice ao len cap
 val:x.value.length ≤ 1024
theorem zero_ok:zero.Ok:=⟨rfl,⟨none,0,0,rfl⟩,by decide⟩
variable {x : Sp}
theorem cells_list:x.cells.toList = .int .u8 (x.kind:Nat) :: .int .i64 x.d :: (x.key.map bv ++ [x.addr,.int .i64 x.left,.int .i64 x.right,.int .i64 x.own,.int .i64 x.sides]):=rfl
theorem cells_size (h:x.Ok):x.cells.size = 39:=by simp [cells,h.key]
theorem cells_one (h:x.Ok):∀ v ∈ x.cells.toList,v.oneCell' = true:=by
 obtain ⟨ao,len,cap,ha⟩:=h.addr
 intro v hv
 rw [cells_list] at hv
 simp only [List.mem_cons,List.mem_append,List.mem_map,List.not_mem_nil,or_false] at hv
 rcases hv with rfl | rfl | ⟨b,_,rfl⟩ | rfl | rfl | rfl | rfl | rfl
 · rfl
 · rfl
 · rfl
 · rw [ha]; rfl
 · rfl
 · rfl
 · rfl
 rfl
theorem at_kind:x.cells[0]? = some (.int .u8 (x.kind:Nat)):=rfl
theorem at_d:x.cells[1]? = some (.int .i64 x.d):=rfl
theorem end_of (h:x.Ok) (i:Nat):x.cells[34 + i]? = [x.addr,Value.int .i64 x.left,.int .i64 x.right,.int .i64 x.own,.int .i64 x.sides][i]?:=by
 rw [← Array.getElem?_toList,cells_list,show 34 + i = (32 + i) + 1 + 1 by omega,List.getElem?_cons_succ,List.getElem?_cons_succ,List.getElem?_append_right (by simp [h.key])]
 simp [h.key]
theorem at_addr (h:x.Ok):x.cells[34]? = some x.addr:=end_of h 0
theorem at_left (h:x.Ok):x.cells[35]? = some (.int .i64 x.left):=end_of h 1
theorem at_right (h:x.Ok):x.cells[36]? = some (.int .i64 x.right):=end_of h 2
theorem at_own (h:x.Ok):x.cells[37]? = some (.int .i64 x.own):=end_of h 3
theorem at_sides (h:x.Ok):x.cells[38]? = some (.int .i64 x.sides):=end_of h 4
theorem at_key (h:x.Ok):x.cells.extract 2 (2 + 32) = brow x.key:=by
 apply Array.ext'
 simp only [Array.toList_extract,List.extract,cells_list,brow]
 simp only [show 2 + 32 - 2 = 32 by rfl,List.drop_succ_cons,List.drop_zero]
 rw [List.take_append_of_le_length (by simp [h.key]),List.take_of_length_le (by simp [h.key])]
def entry (x:Sp):Array Value:=(x.key.map bv ++ [x.addr]).toArray
theorem at_entry (h:x.Ok):x.cells.extract 2 (2 + 33) = x.entry:=by
 apply Array.ext'
 simp only [Array.toList_extract,List.extract,cells_list,entry]
 simp only [show 2 + 33 - 2 = 33 by rfl,List.drop_succ_cons,List.drop_zero]
 rw [List.take_append,List.take_of_length_le (by simp [h.key])]
 simp [h.key]
theorem set_own (h:x.Ok) (n:Int):x.cells.setIfInBounds 37 (.int .i64 n) = ({ x with own:=n }:Sp).cells:=by
 apply Array.ext'
 simp only [Array.toList_setIfInBounds,cells_list]
 simp only [show 37 = 35 + 1 + 1 by rfl,List.set_cons_succ]
 rw [List.set_append_right _ _ (by simp [h.key]),List.length_map,h.key]
 rfl
theorem set_sides (h:x.Ok) (n:Int):x.cells.setIfInBounds 38 (.int .i64 n) = ({ x with sides:=n }:Sp).cells:=by
 apply Array.ext'
 simp only [Array.toList_setIfInBounds,cells_list]
 simp only [show 38 = 36 + 1 + 1 by rfl,List.set_cons_succ]
 rw [List.set_append_right _ _ (by simp [h.key]),List.length_map,h.key]
 rfl
end Sp
structure Rs where
 space:Nat
 spots:List Sp
 free:List Nat
def Rs.sp (ρ:Rs) (h:Int):Sp:=if 1 ≤ h then (match ρ.spots[(h - 1).toNat]? with | some x => if x.kind = 0 then Sp.zero else x | none => Sp.zero) else Sp.zero
def Rs.has (ρ:Rs) (h:Int):Bool:=decide ((ρ.sp h).kind ≠ 0)
def Rs.setAt (ρ:Rs) (m:Nat) (x:Sp):Rs := { ρ with spots:=ρ.spots.set m x }
def SpOf (s:Nd × Nat) (x:Sp):Prop :=
 (s.2 = 0 ∧ x = Sp.zero) ∨ (s.2 ≠ 0 ∧ x.kind = s.1.kind ∧ x.left = s.1.left ∧ x.right = s.1.right ∧ x.value = s.1.value ∧ (s.1.kind = 1 → x.key = s.1.key) ∧ (s.1.kind = 2 → x.d = s.1.depth) ∧ x.own = s.1.held ∧ x.own + x.sides = s.2)
structure Lk (σ:SlabSt Nd) (ρ:Rs):Prop where
 space:ρ.space = σ.room
 free:ρ.free = σ.free
 len:ρ.spots.length = σ.slots.length
 slot:∀ (m:Nat) s x,σ.slots[m]? = some s → ρ.spots[m]? = some x → SpOf s x
section
variable {σ : SlabSt Nd} {ρ : Rs} {h : Int}
theorem kind_ne (G:Good σ) {x:Nd × Nat} (hx:σ.get? h = some x):x.1.kind = 1 ∨ x.1.kind = 2:=by
 by_cases e:x.1.kind = 2
 · exact .inr e
 exact .inl (G.fit.leaf (sk_some hx) e).1
theorem Lk.some (L:Lk σ ρ) (G:Good σ) {s:Nd × Nat} (hs:σ.get? h = Option.some s):∃ (m:Nat) (x:Sp),h = (m:Int) + 1 ∧ m < σ.slots.length ∧ σ.slots[m]? = Option.some s ∧ ρ.spots[m]? = Option.some x ∧ s.2 ≠ 0 ∧ ρ.sp h = x ∧ x.kind = s.1.kind ∧ x.kind ≠ 0 ∧ x.left = s.1.left ∧ x.right = s.1.right ∧ x.value = s.1.value ∧ (s.1.kind = 1 → x.key = s.1.key) ∧ (s.1.kind = 2 → x.d = s.1.depth) ∧ x.own = s.1.held ∧ x.own + x.sides = s.2:=by
 obtain ⟨m,rfl,hm,h0,hlt⟩:=SlabSt.get?_some hs
 have hlr:m < ρ.spots.length:=by rw [L.len]; exact hlt
 have hx:ρ.spots[m]? = Option.some ρ.spots[m]:=List.getElem?_eq_getElem hlr
 have hk:s.1.kind ≠ 0:=by rcases kind_ne G hs with e | e <;> omega
 rcases L.slot m s _ hm hx with ⟨e,_⟩ | ⟨_,h1,h2,h3,h4,h5,h6,h7,h8⟩
 · exact absurd e h0
 refine ⟨m,_,rfl,hlt,hm,hx,h0,?_,h1,by omega,h2,h3,h4,h5,h6,h7,h8⟩
 unfold Rs.sp
 rw [if_pos (by omega),show ((m:Int) + 1 - 1).toNat = m by omega,hx]
 simp only
 rw [if_neg (by omega)]
theorem Lk.none (L:Lk σ ρ) (hs:σ.get? h = Option.none):ρ.sp h = Sp.zero:=by
 rcases SlabSt.get?_none hs with h1 | ⟨m,rfl,h2⟩
 · unfold Rs.sp; rw [if_neg (by omega)]
 unfold Rs.sp
 rw [if_pos (by omega),show ((m:Int) + 1 - 1).toNat = m by omega]
 rcases h2 with h2 | ⟨v,hv⟩
 · rw [List.getElem?_eq_none (by rw [L.len]; exact h2)]
 have hlt:=(List.getElem?_eq_some_iff.1 hv).1
 have hlr:m < ρ.spots.length:=by rw [L.len]; exact hlt
 have hx:ρ.spots[m]? = Option.some ρ.spots[m]:=List.getElem?_eq_getElem hlr
 rw [hx]
 rcases L.slot m _ _ hv hx with ⟨_,e⟩ | ⟨e,_⟩
 · simp only [e]; rfl
 exact absurd rfl e
theorem Lk.has (L:Lk σ ρ) (G:Good σ) (h:Int):ρ.has h = Store.has σ h:=by
 unfold Rs.has
 cases hs:σ.get? h with
 | none => rw [L.none hs,has_none hs]; rfl
 | some s =>
  obtain ⟨m,x,_,_,_,_,_,e,_,h0,_⟩:=L.some G hs
  rw [e,has_some hs]
  simpa using h0
theorem Lk.kind (L:Lk σ ρ) (G:Good σ) (h:Int):(ρ.sp h).kind = (nd σ h).kind:=by
 cases hs:σ.get? h with
 | none => rw [L.none hs,nd_none hs]; rfl
 | some s =>
  obtain ⟨m,x,_,_,_,_,_,e,h1,_⟩:=L.some G hs
  rw [e,nd_some hs,h1]
theorem Lk.left (L:Lk σ ρ) (G:Good σ) (h:Int):(ρ.sp h).left = (nd σ h).left:=by
 cases hs:σ.get? h with
 | none => rw [L.none hs,nd_none hs]; rfl
 | some s =>
  obtain ⟨m,x,_,_,_,_,_,e,_,_,h1,_⟩:=L.some G hs
  rw [e,nd_some hs,h1]
theorem Lk.right (L:Lk σ ρ) (G:Good σ) (h:Int):(ρ.sp h).right = (nd σ h).right:=by
 cases hs:σ.get? h with
 | none => rw [L.none hs,nd_none hs]; rfl
 | some s =>
  obtain ⟨m,x,_,_,_,_,_,e,_,_,_,h1,_⟩:=L.some G hs
  rw [e,nd_some hs,h1]
theorem Lk.value (L:Lk σ ρ) (G:Good σ) (h:Int):(ρ.sp h).value = (nd σ h).value:=by
 cases hs:σ.get? h with
 | none => rw [L.none hs,nd_none hs]; rfl
 | some s =>
  obtain ⟨m,x,_,_,_,_,_,e,_,_,_,_,h1,_⟩:=L.some G hs
  rw [e,nd_some hs,h1]
theorem Lk.own (L:Lk σ ρ) (G:Good σ) (h:Int):(ρ.sp h).own = (nd σ h).held:=by
 cases hs:σ.get? h with
 | none => rw [L.none hs,nd_none hs]; rfl
 | some s =>
  obtain ⟨m,x,_,_,_,_,_,e,_,_,_,_,_,_,_,h1,_⟩:=L.some G hs
  rw [e,nd_some hs,h1]
theorem Lk.count (L:Lk σ ρ) (G:Good σ) (h:Int):(ρ.sp h).own + (ρ.sp h).sides = σ.count h:=by
 cases hs:σ.get? h with
 | none => rw [L.none hs]; unfold SlabSt.count; rw [hs]; rfl
 | some s =>
  obtain ⟨m,x,_,_,_,_,_,e,_,_,_,_,_,_,_,_,h1⟩:=L.some G hs
  rw [e,h1]; unfold SlabSt.count; rw [hs]; rfl
theorem Lk.depth (L:Lk σ ρ) (G:Good σ) (h:Int):(if (ρ.sp h).kind = 2 then (ρ.sp h).d else -1) = if (nd σ h).kind = 2 then (nd σ h).depth else -1:=by
 cases hs:σ.get? h with
 | none => rw [L.none hs,nd_none hs]; rfl
 | some s =>
  obtain ⟨m,x,_,_,_,_,_,e,h1,_,_,_,_,_,h2,_,_⟩:=L.some G hs
  rw [e,nd_some hs,h1]
  by_cases hk:s.1.kind = 2
  · rw [if_pos hk,if_pos hk,h2 hk]
  rw [if_neg hk,if_neg hk]
theorem Lk.new (n:Nat):Lk ⟨n,[],[]⟩ ⟨n,[],[]⟩:=⟨rfl,rfl,rfl,fun m s x hs => by simp at hs⟩
theorem Lk.set (L:Lk σ ρ) {m:Nat} {s:Nd × Nat} {x:Sp} (hx:SpOf s x):Lk { σ with slots:=σ.slots.set m s } { ρ with spots:=ρ.spots.set m x }:=by
 refine ⟨L.space,L.free,by simp [L.len],fun j t y ht hy => ?_⟩
 simp only at ht hy
 by_cases e:m = j
 · subst e
   have h1:=(List.getElem?_eq_some_iff.1 ht).1
   rw [List.length_set] at h1
   rw [List.getElem?_set_self h1] at ht
   rw [List.getElem?_set_self (by rw [L.len]; exact h1)] at hy
   cases ht; cases hy
   exact hx
 rw [List.getElem?_set_ne e] at ht hy
 exact L.slot j t y ht hy
theorem Lk.push (L:Lk σ ρ) {s:Nd × Nat} {x:Sp} (hx:SpOf s x):Lk { σ with slots:=σ.slots ++ [s] } { ρ with spots:=ρ.spots ++ [x] }:=by
 refine ⟨L.space,L.free,by simp [L.len],fun j t y ht hy => ?_⟩
 simp only at ht hy
 by_cases e:j < σ.slots.length
 · rw [List.getElem?_append_left e] at ht
   rw [List.getElem?_append_left (by rw [L.len]; exact e)] at hy
   exact L.slot j t y ht hy
 rw [List.getElem?_append_right (by omega)] at ht
 rw [List.getElem?_append_right (by rw [L.len]; omega),L.len] at hy
 obtain ⟨h1,h2⟩:=List.getElem?_eq_some_iff.1 ht
 have h3:j - σ.slots.length = 0:=by simp at h1; omega
 rw [h3] at ht hy
 simp at ht hy
 subst ht hy
 exact hx
end
end Go.Proofs.YtmeglndnkdgkoaaGreat.Store

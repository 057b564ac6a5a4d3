/- Laws of the layers below. -/
import Derived.Test.YtmeglndnkdgkoaaGreatQf30
set_option maxHeartbeats 3200000
set_option maxRecDepth 100000
set_option linter.unusedVariables false
namespace Go.Proofs.YtmeglndnkdgkoaaGreat.Store
open Go.RowKit Go.Proofs.YtmeglndnkdgkoaaGreat.ShaW Go.Proofs.YtmeglndnkdgkoaaGreat.Path
def ScAt (w0 w:World) (c s b:Nat) (σ τ:SlabSt Nd) (root:Int) (aside:List Int) (G:Nat → Prop):Prop :=
 ∃ ρ F1 F2 vA,At w s F1 σ ∧ RAt w b F2 ρ ∧ Lk τ ρ ∧ w.heap[c]? = some (.cells #[.pointer (some ⟨s,0,none⟩),.pointer (some ⟨b,0,none⟩),.int .i64 root,vA] 45 (0,0)) ∧
  w.ownsRow 0 3 1 vA aside.length (hl aside) ∧ (∀ k,F1 k → w0.heap.size ≤ k) ∧ (∀ k,F2 k → w0.heap.size ≤ k ∧ ¬ F1 k) ∧ (w0.heap.size ≤ c ∧ ¬ F1 c ∧ ¬ F2 c) ∧
  (∀ k,vA.ownBlock = some k → w0.heap.size ≤ k ∧ k ≠ c ∧ ¬ F1 k ∧ ¬ F2 k) ∧ Adds w0 w ∧ ∀ k,G k → ¬ F1 k ∧ ¬ F2 k ∧ k ≠ c ∧ vA.ownBlock ≠ some k ∧ k < w.heap.size
section
variable {w0 w w' : World} {c s b : Nat} {σ σ' τ τ' : SlabSt Nd} {root : Int} {aside : List Int} {G : Nat → Prop}
theorem At.lt {F:Nat → Prop} (h:At w s F σ):∀ k,F k → k < w.heap.size:=by obtain ⟨_,_,_,_,_,_,_,q⟩:=h; exact q
end
end Go.Proofs.YtmeglndnkdgkoaaGreat.Store
namespace Go.Proofs.YtmeglndnkdgkoaaGreat.Law7
open Go.RowKit Go.Proofs.YtmeglndnkdgkoaaGreat.ShaW Go.Proofs.YtmeglndnkdgkoaaGreat.Path Go.Proofs.YtmeglndnkdgkoaaGreat.Store
def keyV (bb:Int):Array Value:=(Value.int .u8 bb :: List.replicate 31 (Value.int .u8 0)).toArray
noncomputable def leafN (b:UInt8) (v:Value):Nd:=Nd.leaf (Tag.leafD (keyL b) (Tag.valueD [])) (keyL b) (Tag.valueD []) [] v
noncomputable def st1 (v:Value):SlabSt Nd:=⟨4,[(leafN 0 v,1)],[]⟩
noncomputable def st2 (v u:Value):SlabSt Nd:=⟨4,[(leafN 0 v,1),(leafN 128 u,1)],[]⟩
noncomputable def top (v u:Value):Nd:=Nd.inner (Tag.innerD (leafN 0 v).digest (leafN 128 u).digest) (first (keyL 0) 0) 0 1 2 2
noncomputable def st3 (v u:Value):SlabSt Nd:=⟨4,[({ leafN 0 v with held:=0 },1),({ leafN 128 u with held:=0 },1),(top v u,1)],[]⟩
theorem bits:bit (keyL 0) 0 = 0 ∧ bit (keyL 128) 0 = 1:=by decide
end Go.Proofs.YtmeglndnkdgkoaaGreat.Law7
namespace Go.Proofs.YtmeglndnkdgkoaaGreat.Law7
open Go.RowKit Go.Proofs.YtmeglndnkdgkoaaGreat.ShaW Go.Proofs.YtmeglndnkdgkoaaGreat.Path Go.Proofs.YtmeglndnkdgkoaaGreat.Store Go.Deep Go.ChangeShapes Go.WideShapes Go.ChangeAt
structure Act7 where
 kind:Int
 key:List UInt8
 vv:Value
 val:List UInt8
 d:Int
 a:Int
 b:Int
def Act7.cells (x:Act7):Array Value:=(.int .i64 x.kind :: (x.key.map bv ++ [x.vv,.int .i64 x.d,.int .i64 x.a,.int .i64 x.b])).toArray
structure Act7.Good (w:World) (x:Act7):Prop where
 key:x.key.length = 32
 val:Bytes w x.vv x.val
 blk:x.val ≠ [] → ∀ k,x.vv.ownBlock = some k → k < w.heap.size
section
variable {x : Act7} (h : x.key.length = 32)
include h
theorem Act7.size:x.cells.size = 37:=by simp [Act7.cells,h]
omit h in
theorem Act7.list:x.cells.toList = .int .i64 x.kind :: (x.key.map bv ++ [x.vv,.int .i64 x.d,.int .i64 x.a,.int .i64 x.b]):=rfl
omit h in
theorem Act7.at_kind:x.cells[0]? = some (.int .i64 x.kind):=rfl
theorem Act7.at_key:x.cells.extract 1 (1 + 32) = brow x.key:=by
 apply Array.ext'
 simp only [Array.toList_extract,List.extract,Act7.list,brow,List.drop_succ_cons,List.drop_zero]
 rw [List.take_append_of_le_length (by simp [h]),List.take_of_length_le (by simp [h])]
theorem Act7.tail (i:Nat):x.cells[33 + i]? = [x.vv,.int .i64 x.d,.int .i64 x.a,.int .i64 x.b][i]?:=by
 rw [← Array.getElem?_toList,Act7.list,show 33 + i = 32 + i + 1 by omega,List.getElem?_cons_succ,List.getElem?_append_right (by simp [h])]
 simp [h]
theorem Act7.at_val:x.cells[33]? = some x.vv:=Act7.tail h 0
theorem Act7.at_d:x.cells[34]? = some (.int .i64 x.d):=Act7.tail h 1
theorem Act7.at_a:x.cells[35]? = some (.int .i64 x.a):=Act7.tail h 2
theorem Act7.at_b:x.cells[36]? = some (.int .i64 x.b):=Act7.tail h 3
end
def ActsAt (w:World) (ao:Option Addr) (len:Nat):Prop := ∀ i,i < len → ∃ (g off:Nat) (x:Act7),ao = some ⟨g,off,none⟩ ∧ x.Good w ∧ PartAt w g (off + i * 37) x.cells
section
variable {H : Type} {enc : TypeId × Value → H} {W : World} {base : Nat}
theorem cells_act7:Tryz.prog.cellsOf 34 = 37:=by kernel_rfl
theorem cells_path:Tryz.prog.cellsOf 31 = 32:=by kernel_rfl
theorem read_act {n:Nat} {cs:List Value} {y:DataW H × List MemPlace} (h:DataW.trod enc Tryz.prog W base (fun _ => true) true n 34 cs = some y):∃ x:Act7,x.Good W ∧ cs = x.cells.toList:=by
 obtain ⟨xs,m,rfl,hx,hl,hxl,hf⟩:=DataW.trod_struct Tryz.underlying34 h
 rw [cells_act7] at hl
 have hx6:xs.length = 6:=hxl
 have g:=fun i (hi:i < 6) => (List.getElem?_eq_getElem (l:=xs) (i:=i) (by omega))
 have f0:=hf 0 ⟨ "Kind",3,0,false, "", "",0⟩ rfl
 have f1:=hf 1 ⟨ "Key",31,1,false, "", "",8⟩ rfl
 have f2:=hf 2 ⟨ "Value",32,33,false, "", "",40⟩ rfl
 have f3:=hf 3 ⟨ "D",3,34,false, "", "",64⟩ rfl
 have f4:=hf 4 ⟨ "A",3,35,false, "", "",72⟩ rfl
 have f5:=hf 5 ⟨ "B",3,36,false, "", "",80⟩ rfl
 rw [g 0 (by omega)] at f0
 rw [g 1 (by omega)] at f1
 rw [g 2 (by omega)] at f2
 rw [g 3 (by omega)] at f3
 rw [g 4 (by omega)] at f4
 rw [g 5 (by omega)] at f5
 simp only [cells_int,cells_path,cells_bytes] at f0 f1 f2 f3 f4 f5
 obtain ⟨n0,e0,_,_⟩:=DataW.trod_int Tryz.underlying3 f0
 obtain ⟨k,e1,hk⟩:=read_key f1
 obtain ⟨v,bs,e2,hb,hv⟩:=read_bytes f2
 obtain ⟨n3,e3,_,_⟩:=DataW.trod_int Tryz.underlying3 f3
 obtain ⟨n4,e4,_,_⟩:=DataW.trod_int Tryz.underlying3 f4
 obtain ⟨n5,e5,_,_⟩:=DataW.trod_int Tryz.underlying3 f5
 refine ⟨⟨n0,k,v,bs,n3,n4,n5⟩,⟨hk,hb,hv⟩,?_⟩
 have hsplit:cs = cs.take 1 ++ ((cs.drop 1).take 32 ++ ((cs.drop 33).take 1 ++ ((cs.drop 34).take 1 ++ ((cs.drop 35).take 1 ++ (cs.drop 36).take 1)))):=by
  have a5:(cs.drop 36).take 1 = cs.drop 36:=List.take_of_length_le (by simp [hl])
  have step:∀ i j,cs.drop i = (cs.drop i).take j ++ cs.drop (i + j):=fun i j => by
   conv => lhs; rw [← List.take_append_drop j (cs.drop i)]
   rw [List.drop_drop]
  rw [a5, ← step 35 1, ← step 34 1, ← step 33 1, ← step 1 32]
  exact step 0 1
 rw [hsplit]
 simp only [List.drop_zero] at e0
 rw [e0,e1,e2,e3,e4,e5]
 rfl
theorem opened_acts {v:Value} {d:DataW H} {p:List MemPlace} (hv:Value.okWide Tryz.prog W .any base 22 v)
 (h:DataW.Trod enc Tryz.prog W 0 (fun _ => true) true 22 v d p):∃ ao len cap,v = .slice ao len cap ∧ ActsAt W ao len:=by
 obtain ⟨ao,len,cap,rfl⟩:=okWide_slice Tryz.underlying22 hv
 obtain ⟨m,hm⟩:=h
 rcases open_slice Tryz.underlying22 hm with ⟨h0,_⟩ | ⟨a,l,c,mm,n,D,Pl,hcs,hb,hl,hc,hmm,hx,hi⟩
 · simp only [Value.cells,List.cons.injEq,Value.slice.injEq,and_true] at h0
   obtain ⟨rfl,rfl,rfl⟩:=h0
   exact ⟨_,_,_,rfl,fun i hi => absurd hi (Nat.not_lt_zero i)⟩
 simp only [Value.cells,List.cons.injEq,Value.slice.injEq,and_true] at hcs
 obtain ⟨rfl,rfl,rfl⟩:=hcs
 refine ⟨_,_,_,rfl,fun i hil => ?_⟩
 obtain ⟨cs',h1,h2⟩:=hi i (by rw [hmm]; simp only [if_true]; exact Nat.lt_of_lt_of_le hil hl)
 rw [cells_act7] at h1
 obtain ⟨x,hg,rfl⟩:=read_act h2
 obtain ⟨_,hlen,h3⟩:=World.cells?_some h1
 obtain ⟨g,off,spot⟩:=a
 cases spot with
 | none =>
  refine ⟨g,off,x,rfl,hg,?_⟩
  have:=PartAt.of_cells (w:=W) (g:=g) (o:=off + i * 37) (m:=37) (cs:=x.cells.toList) (by omega) hlen (fun j hj => by have:=h3 j hj; simpa only [add_plain] using this)
  exact this
 | some s =>
  exfalso
  obtain ⟨cs',h1,h2⟩:=hi 0 (by rw [hmm]; simp only [if_true]; exact Nat.lt_of_lt_of_le (Nat.lt_of_le_of_lt (Nat.zero_le _) hil) hl)
  rw [cells_act7] at h1
  obtain ⟨x,hg,rfl⟩:=read_act h2
  obtain ⟨_,_,h3⟩:=World.cells?_some h1
  have k0:=h3 0 (by omega)
  rw [cell_spot _ _ (by simp [Addr.add])] at k0
  cases k0
end
end Go.Proofs.YtmeglndnkdgkoaaGreat.Law7
namespace Go.Proofs.YtmeglndnkdgkoaaGreat.Law7
open Go.RowKit Go.Proofs.YtmeglndnkdgkoaaGreat.ShaW Go.Proofs.YtmeglndnkdgkoaaGreat.Path Go.Proofs.YtmeglndnkdgkoaaGreat.Store Go.Deep
section
variable {σ : SlabSt Nd} {rm : Nat}
theorem room_take (x:Nd):(σ.take x).2.2.room = σ.room:=by
 unfold SlabSt.take
 split
 · rfl
 cases σ.free.getLast? with
 | none => rfl
 | some n => simp
theorem room_leafS (key value:List UInt8) (v:Value):(leafS σ key value v).2.2.room = σ.room:=by
 unfold leafS
 split
 · rfl
 exact room_take _
theorem room_innerS (d l r:Int):(innerS σ d l r).2.2.room = σ.room:=by
 unfold innerS
 split
 · rfl
 split
 · rfl
 split
 · rfl
 split
 · rfl
 simp only
 rw [room_bump,room_bump]
 exact room_take _
theorem room_holdS (n:Int):(holdS σ n).2.room = σ.room:=by
 unfold holdS
 split
 · simp only
   rw [room_bump]
   unfold SlabSt.hold
   cases σ.get? n with
   | none => rfl
   | some x =>
    simp only
    split <;> rfl
 rfl
theorem room_dropS (h:Int):(dropS σ h).2.2.room = σ.room:=by
 unfold dropS
 split
 · simp only
   rw [room_sweep,room_bump]
 rfl
structure Fine (rm:Nat) (σ:SlabSt Nd):Prop where
 good:Store.Good σ
 room:σ.room = rm
theorem Fine.leaf (h:Fine rm σ) (key value:List UInt8) (v:Value) (hk:key.length = 32):Fine rm (leafS σ key value v).2.2:=⟨h.good.leaf key value v hk,(room_leafS key value v).trans h.room⟩
theorem Fine.inner (h:Fine rm σ) (d l r:Int):Fine rm (innerS σ d l r).2.2:=⟨h.good.inner d l r,(room_innerS d l r).trans h.room⟩
theorem Fine.hold (h:Fine rm σ) (n:Int):Fine rm (holdS σ n).2:=⟨h.good.hold n,(room_holdS n).trans h.room⟩
theorem Fine.drop (h:Fine rm σ) (n:Int):Fine rm (dropS σ n).2.2:=⟨h.good.drop n,(room_dropS n).trans h.room⟩
end
end Go.Proofs.YtmeglndnkdgkoaaGreat.Law7
namespace Go.Proofs.YtmeglndnkdgkoaaGreat.Store
open Go.RowKit Go.Proofs.YtmeglndnkdgkoaaGreat.ShaW Go.Proofs.YtmeglndnkdgkoaaGreat.Path
def Tw (w0 w:World) (s b:Nat) (σ:SlabSt Nd) (G:Nat → Prop):Prop :=
 ∃ ρ F1 F2,At w s F1 σ ∧ RAt w b F2 ρ ∧ Lk σ ρ ∧ (∀ k,F1 k → w0.heap.size ≤ k) ∧ (∀ k,F2 k → w0.heap.size ≤ k ∧ ¬ F1 k) ∧ Adds w0 w ∧ ∀ k,G k → ¬ F1 k ∧ ¬ F2 k ∧ k < w.heap.size
section
variable {w0 w w' : World} {s b : Nat} {σ σ' : SlabSt Nd} {G : Nat → Prop}
theorem Tw.world (h:Tw w0 w s b σ G):Adds w0 w:=by obtain ⟨_,_,_,_,_,_,_,_,h,_⟩:=h; exact h
theorem Tw.adds (h:Tw w0 w s b σ G) (a:Adds w w'):Tw w0 w' s b σ G:=by
 obtain ⟨ρ,F1,F2,h1,h2,h3,h6,h7,h10,h11⟩:=h
 exact ⟨ρ,F1,F2,h1.adds a,h2.adds a,h3,h6,h7,h10.trans a (fun _ => fEq),fun k hk => by
  obtain ⟨q1,q2,q5⟩:=h11 k hk
  exact ⟨q1,q2,Nat.lt_of_lt_of_le q5 a.size⟩⟩
theorem Tw.less {G':Nat → Prop} (h:Tw w0 w s b σ G) (hG:∀ k,G' k → G k):Tw w0 w s b σ G':=by
 obtain ⟨ρ,F1,F2,h1,h2,h3,h6,h7,h10,h11⟩:=h
 exact ⟨ρ,F1,F2,h1,h2,h3,h6,h7,h10,fun k hk => h11 k (hG k hk)⟩
theorem Tw.more (h:Tw w0 w s b σ G) (a:Adds w w') {G':Nat → Prop} (hG:∀ k,G' k → G k ∨ (w.heap.size ≤ k ∧ k < w'.heap.size)):Tw w0 w' s b σ G':=by
 obtain ⟨ρ,F1,F2,h1,h2,h3,h6,h7,h10,h11⟩:=h
 have l1:=At.lt h1
 have l2:=RAt.lt h2
 refine ⟨ρ,F1,F2,h1.adds a,h2.adds a,h3,h6,h7,h10.trans a (fun _ => fEq),fun k hk => ?_⟩
 rcases hG k hk with hk | ⟨hk,hk'⟩
 · obtain ⟨q1,q2,q5⟩:=h11 k hk
   exact ⟨q1,q2,Nat.lt_of_lt_of_le q5 a.size⟩
 exact ⟨fun h => by have:=l1 k h; omega,fun h => by have:=l2 k h; omega,hk'⟩
theorem Tw.ow (h:Tw w0 w s b σ G):Ow w0 w s σ G:=by
 obtain ⟨ρ,F1,F2,h1,h2,h3,h6,h7,h10,h11⟩:=h
 exact ⟨F1,h1,h6,h10,fun k hk => ⟨(h11 k hk).1,(h11 k hk).2.2⟩⟩
theorem Tw.row (h:Tw w0 w s b σ G):ROw w0 w b σ G:=by
 obtain ⟨ρ,F1,F2,h1,h2,h3,h6,h7,h10,h11⟩:=h
 exact ⟨ρ,F2,h2,h3,fun k hk => (h7 k hk).1,h10,fun k hk => ⟨(h11 k hk).2.1,(h11 k hk).2.2⟩⟩
theorem Tw.both (h:Tw w0 w s b σ G) {f:Nat} {args:Array Value} {P:Ending → SlabSt Nd → Prop}
 (hc:∀ G',Ow w0 w s σ G' → Calls Tryz.prog f args w fun e w' => ∃ σ',P e σ' ∧ Ow w0 w' s σ' G' ∧ But G' w w') :
 Calls Tryz.prog f args w fun e w' => ∃ σ',P e σ' ∧ But G w w' ∧
  ∀ {w1:World} {g:Nat} {args1:Array Value} {P1:Ending → Prop},Adds w' w1 → (∀ G',ROw w0 w1 b σ G' → Calls Tryz.prog g args1 w1 fun e w2 => P1 e ∧ ROw w0 w2 b σ' G' ∧ But G' w1 w2) →
   Calls Tryz.prog g args1 w1 fun e w2 => P1 e ∧ Tw w0 w2 s b σ' G ∧ But G w1 w2:=by
 obtain ⟨ρ,F1,F2,h1,h2,h3,h6,h7,h10,h11⟩:=h
 have l2:=RAt.lt h2
 refine (hc (fun k => F2 k ∨ G k) ⟨F1,h1,h6,h10,fun k hk => ?_⟩).mono ?_
 · rcases hk with hk | hk
   · exact ⟨(h7 k hk).2,l2 k hk⟩
   exact ⟨(h11 k hk).1,(h11 k hk).2.2⟩
 rintro e w' ⟨σ',hP,⟨F1',g1,g2,g3,g4⟩,hB⟩
 refine ⟨σ',hP,hB.less (fun k hk => .inr hk),fun {w1 g args1 P1} a1 hd => ?_⟩
 have l1:=At.lt g1
 have r2:RAt w1 b F2 ρ:=(h2.keep hB (fun k hk hn => hn (.inl hk))).adds a1
 refine (hd (fun k => F1' k ∨ G k) ⟨ρ,F2,r2,h3,fun k hk => (h7 k hk).1,g3.trans a1 (fun _ => fEq),fun k hk => ?_⟩).mono ?_
 · rcases hk with hk | hk
   · exact ⟨fun hf => (g4 k (.inl hf)).1 hk,Nat.lt_of_lt_of_le (l1 k hk) a1.size⟩
   exact ⟨(h11 k hk).2.1,Nat.lt_of_lt_of_le (g4 k (.inr hk)).2 a1.size⟩
 rintro e w2 ⟨hP1,⟨ρ',F2',k1,kL,k2,k3,k4⟩,hB2⟩
 refine ⟨hP1,⟨ρ',F1',F2',(g1.adds a1).keep hB2 (fun k hk hn => hn (.inl hk)),k1,kL,g2,fun k hk => ⟨k2 k hk,fun hf => (k4 k (.inl hf)).1 hk⟩,k3,fun k hk => ?_⟩,hB2.less (fun k hk => .inr hk)⟩
 exact ⟨(g4 k (.inr hk)).1,(k4 k (.inr hk)).1,(k4 k (.inr hk)).2⟩
theorem Tw.look (h:Tw w0 w s b σ G) (GG:Good σ) (n:Int):Calls Tryz.prog 70 #[.pointer (some ⟨s,0,none⟩),.pointer (some ⟨b,0,none⟩),.int .i64 n,.bool true] w fun e w' => e = .returned (.bool true) ∧ Adds w w':=by
 obtain ⟨F1,h1,_⟩:=h.ow
 exact LookD_ok h1 h.row GG n
theorem Tw.same (h:Tw w0 w s b σ G) (GG:Good σ):Calls Tryz.prog 18 #[.pointer (some ⟨s,0,none⟩),.pointer (some ⟨b,0,none⟩),.bool true] w fun e w' => e = .returned (.bool true) ∧ Adds w w':=by
 obtain ⟨F1,h1,_⟩:=h.ow
 exact SameD_ok h1 h.row GG
end
end Go.Proofs.YtmeglndnkdgkoaaGreat.Store
namespace Go.Proofs.YtmeglndnkdgkoaaGreat.Store
open Go.RowKit Go.Proofs.YtmeglndnkdgkoaaGreat.ShaW Go.Proofs.YtmeglndnkdgkoaaGreat.Path Go.Proofs.YtmeglndnkdgkoaaGreat.Law9
section
variable {w0 w w' : World} {c s b : Nat} {σ σ' τ τ' : SlabSt Nd} {root : Int} {aside : List Int} {G : Nat → Prop}
theorem lent_row {w:World} {g:Nat} {bs:List UInt8} (h:w.heap[g]? = some (.cells (brow (lent bs)) 5 (0,0))) (hl:bs.length ≤ 4000):BytesRow w 0 (.slice (some ⟨g,0,none⟩) bs.length (bs.length + 5)) bs :=
 .inr ⟨g,_,lent bs,rfl,Nat.zero_le _,h,lent_length bs,List.take_left,by unfold maxLen; omega,by omega⟩
def PutRet (σ:SlabSt Nd) (r:Int) (x:Act9) (y:Int) (σ1:SlabSt Nd) (e:Ending):Prop:=e = .returned (.tuple #[.int .i64 y,.int .i64 (putErr σ r x.val),.bool true]) ∧ PutTo σ r x.key x.val y σ1
def PutScene (w0 w:World) (c s b:Nat) (σ:SlabSt Nd) (root:Int) (aside:List Int) (G:Nat → Prop) (r:Int) (x:Act9):Prop :=
 Calls Tryz.prog 22 #[.pointer (some ⟨c,0,none⟩),.int .i64 r,.agg x.cells] w fun e w' => ∃ (y:Int) (σ1:SlabSt Nd),PutRet σ r x y σ1 e ∧ ScAt w0 w' c s b σ1 σ1 root aside G ∧ But G w w'
end
end Go.Proofs.YtmeglndnkdgkoaaGreat.Store
namespace Go.Proofs.YtmeglndnkdgkoaaGreat.Store
open Go.RowKit Go.Proofs.YtmeglndnkdgkoaaGreat.ShaW Go.Proofs.YtmeglndnkdgkoaaGreat.Path Go.Proofs.YtmeglndnkdgkoaaGreat.Law7
section
variable {w0 w w' : World} {s b : Nat} {σ σ' : SlabSt Nd} {G : Nat → Prop} {rm : Nat}
theorem Tw.own (h:Tw w0 w s b σ G) (hc:Ch (fun k => G k ∧ w0.heap.size ≤ k) w w'):Tw w0 w' s b σ G:=by
 obtain ⟨ρ,F1,F2,h1,h2,h3,h6,h7,h10,h11⟩:=h
 exact ⟨ρ,F1,F2,h1.keep hc (fun k hk hn => (h11 k hn.1).1 hk),h2.keep hc (fun k hk hn => (h11 k hn.1).2.1 hk),h3,h6,h7,h10.trans hc (fun k hk => .inr hk.2),fun k hk => ⟨(h11 k hk).1,(h11 k hk).2.1,Nat.lt_of_lt_of_le (h11 k hk).2.2 hc.size⟩⟩
theorem act_leaf (h:Tw w0 w s b σ (fun _ => False)) (hs:Fine rm σ) {key val:List UInt8} {vv:Value} (d a b1:Int) (hx:Act7.Good w0 ⟨0,key,vv,val,d,a,b1⟩) (hl:val.length ≤ 2000) :
 Calls Tryz.prog 17 #[.pointer (some ⟨s,0,none⟩),.pointer (some ⟨b,0,none⟩),.agg (Act7.cells ⟨0,key,vv,val,d,a,b1⟩)] w fun e w' => e = .returned (.bool true) ∧ ∃ σ',Tw w0 w' s b σ' (fun _ => False) ∧ Fine rm σ':=by
 have hk:key.length = 32:=hx.key
 have q0:=Act7.at_kind (x:=⟨0,key,vv,val,d,a,b1⟩)
 have q1:=Act7.at_key (x:=⟨0,key,vv,val,d,a,b1⟩) hk
 have q2:=Act7.at_val (x:=⟨0,key,vv,val,d,a,b1⟩) hk
 have qs:=Act7.size (x:=⟨0,key,vv,val,d,a,b1⟩) hk
 have hb:Bytes w0 vv val:=hx.val
 simp only at q0 q1 q2
 obtain ⟨ao,cap,hvf,_,_⟩:=hb.form
 obtain ⟨X,hX⟩:∃ X,X = Act7.cells ⟨0,key,vv,val,d,a,b1⟩:=⟨_,rfl⟩
 rw [← hX] at q0 q1 q2 qs ⊢
 obtain ⟨K,hK⟩:∃ K,K = brow key:=⟨_,rfl⟩
 rw [← hK] at q1
 obtain ⟨n,hn⟩:∃ n,n = val.length:=⟨_,rfl⟩
 rw [hvf, ← hn] at q2
 have hbw:∀ w1,Adds w0 w1 → Bytes w1 (.slice ao n cap) val:=fun w1 a => by
  have:=hb.keep a (fun _ _ h => h)
  rw [hvf, ← hn] at this
  exact this
 have a0:Adds w (w.alloc (.cells X 34)):=(Ch.refl _ _).alloc _
 have hx0:=heap_alloc_new w (.cells X 34)
 have c0:=row_cell hx0 q0
 have c2:=row_cell hx0 q2
 have hLB:=LentBytes_ok (hbw _ (h.world.trans a0 (fun _ => fEq))) (by omega)
 rw [← hn,World.size_alloc] at hLB
 have hg0:w0.heap.size ≤ w.heap.size:=h.world.size
 have HLB:=Lib.hid hLB
 have HX:=(hIq qs (aIq q1 q2))
 have H0:=(hIq hx0 (aIq a0 hg0))
 have HS:=Lib.hid h
 have HF:=Lib.hid hs
 have HB:=Lib.hid hbw
 have HKK:=(hIq hK hk)
 have HL4:=Lib.hid (by omega:val.length ≤ 4000)
 have HN:=Lib.hid hn
 clear hLB q0 q1 q2 qs hX hK hx0 a0 hg0 hb hbw hk h hs hx hl hn hvf
 go_enter Tryz.func17,Tryz.ntmps17
 go_wp2_with fail
 refine HLB.out.mono ?_; rintro e w2 ⟨rfl,hg2,a2⟩
 have T1:Tw w0 (w.alloc (.cells X 34)) s b σ (fun k => k = w.heap.size):=HS.out.more H0.out.2.1 (fun k hk => .inr ⟨by omega,by rw [World.size_alloc]; omega⟩)
 have l2:=row_lt hg2
 have T2:Tw w0 w2 s b σ (fun k => k = w.heap.size ∨ k = w.heap.size + 1):=T1.more a2 (fun k hk => hk.imp id (fun e => by rw [World.size_alloc]; omega))
 have x2:=a2.row H0.out.1 id
 have hbr:=lent_row hg2 HL4.out
 rw [← HN.out] at hbr
 have hleaf:=T2.both (f:=61) (args := #[.pointer (some ⟨s,0,none⟩),.agg K,.slice (some ⟨w.heap.size + 1,0,none⟩) n (n + 5)]) (P:=fun e σ' => ∃ v,e = .returned (.tuple #[.int .i64 (leafS σ key val v).1,.int .i64 (leafS σ key val v).2.1]) ∧ σ' = (leafS σ key val v).2.2) (fun G' hO => by
  have:=hO.leaf key HKK.out.2 hbr.bytes (fun _ k hk => by cases hk; exact l2)
  rw [← HKK.out.1] at this
  exact this.mono fun e w' ⟨v,he,ho,hB⟩ => ⟨_,⟨v,he,rfl⟩,ho,hB⟩)
 have HLF:=Lib.hid hleaf
 have H2:=(hIq x2 hg2)
 clear hleaf x2 hg2 hbr T1 T2 a2 l2
 go_wp2_with (first
  | fail
  | ((with_reducible show zOq (.load 31 _)); refine wpList_load_part rfl 31 _ rfl w.heap.size 1 rfl H2.out.1 Tryz.underlying31 rfl sizeP (by rw [HX.out.1]; omega) K HX.out.2.1 ?_))
 refine HLF.out.mono ?_; rintro e w3 ⟨σ3,⟨v,rfl,rfl⟩,hB3,hdoc⟩
 obtain ⟨r1,hr1⟩:∃ r1,r1 = (leafS σ key val v).1:=⟨_,rfl⟩
 obtain ⟨r2,hr2⟩:∃ r2,r2 = (leafS σ key val v).2.1:=⟨_,rfl⟩
 obtain ⟨σ3,hσ3⟩:∃ σ3,σ3 = (leafS σ key val v).2.2:=⟨_,rfl⟩
 have x3:=hB3.row H2.out.1 (.inl rfl)
 have g3:=hB3.row H2.out.2 (.inr rfl)
 have d2:=row_cell x3 HX.out.2.2
 have hd:=hdoc (g:=62) (args1 := #[.pointer (some ⟨b,0,none⟩),.agg K,.slice ao n cap]) (P1:=fun e => e = .returned (.tuple #[.int .i64 r1,.int .i64 r2])) (Ch.refl _ _) (fun G' hR => by
  have:=hR.leaf HF.out.good key HKK.out.2 (HB.out _ hR.world) v
  rw [← HKK.out.1, ← hr1, ← hr2] at this
  exact this)
 rw [← hσ3] at hd
 rw [← hr1, ← hr2]
 have hf3:=HF.out.leaf key val v HKK.out.2
 rw [← hσ3] at hf3
 have HD:=Lib.hid hd
 have H3:=(hIq x3 (aIq g3 hf3))
 clear hd hdoc x3 g3 hf3 hB3 hr1 hr2 hσ3 c0 c2
 go_wp2_with (first
  | fail
  | ((with_reducible show zOq (.load 31 _)); refine wpList_load_part rfl 31 _ rfl w.heap.size 1 rfl H3.out.1 Tryz.underlying31 rfl sizeP (by rw [HX.out.1]; omega) K HX.out.2.1 ?_))
 refine HD.out.mono ?_; rintro e w4 ⟨rfl,T4,hB4⟩
 have x4:=hB4.row H3.out.1 (.inl rfl)
 have g4:=hB4.row H3.out.2.1 (.inr rfl)
 have e2:=row_cell x4 HX.out.2.2
 have hkb:=KeptBytes_ok g4 (HB.out w4 T4.world) HL4.out
 rw [← HN.out] at hkb
 have HKB:=Lib.hid hkb
 have H4:=(hIq T4 g4)
 clear hkb x4 g4 T4 hB4 d2
 go_wp2_with fail
 refine HKB.out.mono ?_; rintro e w5 ⟨rfl,a5⟩
 have hob:=OverBytes_ok (lent_row (a5.row H4.out.2 id) HL4.out)
 rw [← HN.out] at hob
 have HOB:=Lib.hid hob
 have H5:=Lib.hid (H4.out.1.adds a5)
 clear hob a5 e2
 go_wp2_with fail
 refine HOB.out.mono ?_; rintro e w6 ⟨⟨u,rfl⟩,c6⟩
 have H6:=Lib.hid (H5.out.own (c6.mono (fun k _ hk => by
  have hk':k = w.heap.size + 1:=by cases hk; rfl
  exact ⟨.inr hk',by have:=H0.out.2.2; omega⟩)))
 clear c6
 go_wp2
 go_ret
 exact ⟨rfl,_,H6.out.less (fun k hk => hk.elim),H3.out.2.2⟩
end
section
variable {w0 w w' : World} {s b : Nat} {σ σ' : SlabSt Nd} {G : Nat → Prop} {rm : Nat}
theorem Tw.inner (h:Tw w0 w s b σ G) (hs:Fine rm σ) (d l r:Int) :
 Calls Tryz.prog 67 #[.pointer (some ⟨s,0,none⟩),.int .i64 d,.int .i64 l,.int .i64 r] w fun e w' => e = .returned (.tuple #[.int .i64 (innerS σ d l r).1,.int .i64 (innerS σ d l r).2.1]) ∧ But G w w' ∧
  Calls Tryz.prog 68 #[.pointer (some ⟨b,0,none⟩),.int .i64 d,.int .i64 l,.int .i64 r] w' fun e w2 => e = .returned (.tuple #[.int .i64 (innerS σ d l r).1,.int .i64 (innerS σ d l r).2.1]) ∧ Tw w0 w2 s b (innerS σ d l r).2.2 G ∧ But G w' w2 :=
 (h.both (P:=fun e σ' => e = .returned (.tuple #[.int .i64 (innerS σ d l r).1,.int .i64 (innerS σ d l r).2.1]) ∧ σ' = (innerS σ d l r).2.2) (fun G' hO => (hO.inner d l r).mono fun e w' ⟨he,ho,hB⟩ => ⟨_,⟨he,rfl⟩,ho,hB⟩)).mono fun e w' ⟨σ',⟨he,e'⟩,hB,hd⟩ => ⟨he,hB,by
  subst e'
  exact hd (P1:=fun e => e = .returned (.tuple #[.int .i64 (innerS σ d l r).1,.int .i64 (innerS σ d l r).2.1])) (Ch.refl _ _) (fun G' hR => hR.inner hs.good d l r)⟩
theorem Tw.hold (h:Tw w0 w s b σ G) (hs:Fine rm σ) (n:Int) :
 Calls Tryz.prog 65 #[.pointer (some ⟨s,0,none⟩),.int .i64 n] w fun e w' => e = .returned (.int .i64 (holdS σ n).1) ∧ But G w w' ∧
  ∀ w1,Adds w' w1 → Calls Tryz.prog 66 #[.pointer (some ⟨b,0,none⟩),.int .i64 n] w1 fun e w2 => e = .returned (.int .i64 (holdS σ n).1) ∧ Tw w0 w2 s b (holdS σ n).2 G ∧ But G w1 w2 :=
 (h.both (P:=fun e σ' => e = .returned (.int .i64 (holdS σ n).1) ∧ σ' = (holdS σ n).2) (fun G' hO => (hO.hold n).mono fun e w' ⟨he,ho,hB⟩ => ⟨_,⟨he,rfl⟩,ho,hB⟩)).mono fun e w' ⟨σ',⟨he,e'⟩,hB,hd⟩ => ⟨he,hB,fun w1 a1 => by
  subst e'
  exact hd (P1:=fun e => e = .returned (.int .i64 (holdS σ n).1)) a1 (fun G' hR => hR.hold hs.good n)⟩
theorem Tw.drop (h:Tw w0 w s b σ G) (hs:Fine rm σ) (n:Int) :
 Calls Tryz.prog 39 #[.pointer (some ⟨s,0,none⟩),.int .i64 n] w fun e w' => e = .returned (.tuple #[.int .i64 (dropS σ n).1,.int .i64 (dropS σ n).2.1]) ∧ But G w w' ∧
  Calls Tryz.prog 69 #[.pointer (some ⟨b,0,none⟩),.int .i64 n] w' fun e w2 => e = .returned (.tuple #[.int .i64 (dropS σ n).1,.int .i64 (dropS σ n).2.1]) ∧ Tw w0 w2 s b (dropS σ n).2.2 G ∧ But G w' w2 :=
 (h.both (P:=fun e σ' => e = .returned (.tuple #[.int .i64 (dropS σ n).1,.int .i64 (dropS σ n).2.1]) ∧ σ' = (dropS σ n).2.2) (fun G' hO => (hO.drop n).mono fun e w' ⟨he,ho,hB⟩ => ⟨_,⟨he,rfl⟩,ho,hB⟩)).mono fun e w' ⟨σ',⟨he,e'⟩,hB,hd⟩ => ⟨he,hB,by
  subst e'
  exact hd (P1:=fun e => e = .returned (.tuple #[.int .i64 (dropS σ n).1,.int .i64 (dropS σ n).2.1])) (Ch.refl _ _) (fun G' hR => hR.drop hs.good n)⟩
theorem act_inner (h:Tw w0 w s b σ (fun _ => False)) (hs:Fine rm σ) {key val:List UInt8} {vv:Value} {d a b1:Int} (hk:key.length = 32) (hvo:vv.oneCell' = true) :
 Calls Tryz.prog 17 #[.pointer (some ⟨s,0,none⟩),.pointer (some ⟨b,0,none⟩),.agg (Act7.cells ⟨1,key,vv,val,d,a,b1⟩)] w fun e w' => e = .returned (.bool true) ∧ ∃ σ',Tw w0 w' s b σ' (fun _ => False) ∧ Fine rm σ':=by
 have q0:=Act7.at_kind (x:=⟨1,key,vv,val,d,a,b1⟩)
 have q3:=Act7.at_d (x:=⟨1,key,vv,val,d,a,b1⟩) hk
 have q4:=Act7.at_a (x:=⟨1,key,vv,val,d,a,b1⟩) hk
 have q5:=Act7.at_b (x:=⟨1,key,vv,val,d,a,b1⟩) hk
 simp only at q0 q3 q4 q5
 obtain ⟨X,hX⟩:∃ X,X = Act7.cells ⟨1,key,vv,val,d,a,b1⟩:=⟨_,rfl⟩
 rw [← hX] at q0 q3 q4 q5 ⊢
 have a0:Adds w (w.alloc (.cells X 34)):=(Ch.refl _ _).alloc _
 have hx0:=heap_alloc_new w (.cells X 34)
 have c0:=row_cell hx0 q0
 have T1:Tw w0 (w.alloc (.cells X 34)) s b σ (fun k => k = w.heap.size):=h.more a0 (fun k hk => .inr ⟨by omega,by rw [World.size_alloc]; omega⟩)
 obtain ⟨w1,hw1⟩:∃ w1,w1 = w.alloc (.cells X 34):=⟨_,rfl⟩
 have HQ:=(hIq q3 (aIq q4 q5))
 have HF:=Lib.hid hs
 rw [← hw1] at hx0 T1 c0
 have c3:=row_cell hx0 q3
 have c4:=row_cell hx0 q4
 have c5:=row_cell hx0 q5
 have H1:=(hIq T1 hx0)
 have HW1:=Lib.hid hw1
 clear q0 q3 q4 q5 hX a0 hx0 T1 h hs hk hvo hw1
 go_enter Tryz.func17,Tryz.ntmps17
 go_upto_region 1 with fail
 have hin:=H1.out.1.inner HF.out d a b1
 obtain ⟨r1,hr1⟩:∃ r1,r1 = (innerS σ d a b1).1:=⟨_,rfl⟩
 obtain ⟨r2,hr2⟩:∃ r2,r2 = (innerS σ d a b1).2.1:=⟨_,rfl⟩
 obtain ⟨σ3,hσ3⟩:∃ σ3,σ3 = (innerS σ d a b1).2.2:=⟨_,rfl⟩
 have hf:=HF.out.inner d a b1
 rw [← hσ3] at hin hf
 rw [← hr1, ← hr2] at hin
 have HI:=Lib.hid hin
 have HFF:=Lib.hid hf
 clear hin hf hr1 hr2 hσ3
 rw [← HW1.out]
 go_wp2_with fail
 refine HI.out.mono ?_; rintro e w3 ⟨rfl,hB3,hdoc⟩
 have x3:=hB3.row H1.out.2 rfl
 have e3:=row_cell x3 HQ.out.1
 have e4:=row_cell x3 HQ.out.2.1
 have e5:=row_cell x3 HQ.out.2.2
 have HD:=Lib.hid hdoc
 clear x3 hB3 hdoc c0 c3 c4 c5
 go_wp2_with fail
 refine HD.out.mono ?_; rintro e w4 ⟨rfl,T4,hB4⟩
 have H4:=Lib.hid T4
 clear T4 hB4 e3 e4 e5
 go_wp2
 go_ret
 exact ⟨rfl,_,H4.out.less (fun k hk => hk.elim),HFF.out⟩
theorem act_drop (h:Tw w0 w s b σ (fun _ => False)) (hs:Fine rm σ) {key val:List UInt8} {vv:Value} {d a b1:Int} (hk:key.length = 32) (hvo:vv.oneCell' = true) :
 Calls Tryz.prog 17 #[.pointer (some ⟨s,0,none⟩),.pointer (some ⟨b,0,none⟩),.agg (Act7.cells ⟨3,key,vv,val,d,a,b1⟩)] w fun e w' => e = .returned (.bool true) ∧ ∃ σ',Tw w0 w' s b σ' (fun _ => False) ∧ Fine rm σ':=by
 have q0:=Act7.at_kind (x:=⟨3,key,vv,val,d,a,b1⟩)
 have q3:=Act7.at_d (x:=⟨3,key,vv,val,d,a,b1⟩) hk
 have q4:=Act7.at_a (x:=⟨3,key,vv,val,d,a,b1⟩) hk
 have q5:=Act7.at_b (x:=⟨3,key,vv,val,d,a,b1⟩) hk
 simp only at q0 q3 q4 q5
 obtain ⟨X,hX⟩:∃ X,X = Act7.cells ⟨3,key,vv,val,d,a,b1⟩:=⟨_,rfl⟩
 rw [← hX] at q0 q3 q4 q5 ⊢
 have a0:Adds w (w.alloc (.cells X 34)):=(Ch.refl _ _).alloc _
 have hx0:=heap_alloc_new w (.cells X 34)
 have c0:=row_cell hx0 q0
 have T1:Tw w0 (w.alloc (.cells X 34)) s b σ (fun k => k = w.heap.size):=h.more a0 (fun k hk => .inr ⟨by omega,by rw [World.size_alloc]; omega⟩)
 obtain ⟨w1,hw1⟩:∃ w1,w1 = w.alloc (.cells X 34):=⟨_,rfl⟩
 have HQ:=(hIq q3 (aIq q4 q5))
 have HF:=Lib.hid hs
 rw [← hw1] at hx0 T1 c0
 have c3:=row_cell hx0 q3
 have c4:=row_cell hx0 q4
 have c5:=row_cell hx0 q5
 have H1:=(hIq T1 hx0)
 have HW1:=Lib.hid hw1
 clear q0 q3 q4 q5 hX a0 hx0 T1 h hs hk hvo hw1
 go_enter Tryz.func17,Tryz.ntmps17
 go_upto_region 1 with fail
 have hin:=H1.out.1.drop HF.out a
 obtain ⟨r1,hr1⟩:∃ r1,r1 = (dropS σ a).1:=⟨_,rfl⟩
 obtain ⟨r2,hr2⟩:∃ r2,r2 = (dropS σ a).2.1:=⟨_,rfl⟩
 obtain ⟨σ3,hσ3⟩:∃ σ3,σ3 = (dropS σ a).2.2:=⟨_,rfl⟩
 have hf:=HF.out.drop a
 rw [← hσ3] at hin hf
 rw [← hr1, ← hr2] at hin
 have HI:=Lib.hid hin
 have HFF:=Lib.hid hf
 clear hin hf hr1 hr2 hσ3
 rw [← HW1.out]
 go_wp2_with fail
 refine HI.out.mono ?_; rintro e w3 ⟨rfl,hB3,hdoc⟩
 have x3:=hB3.row H1.out.2 rfl
 have e3:=row_cell x3 HQ.out.1
 have e4:=row_cell x3 HQ.out.2.1
 have e5:=row_cell x3 HQ.out.2.2
 have HD:=Lib.hid hdoc
 clear x3 hB3 hdoc c0 c3 c4 c5
 go_wp2_with fail
 refine HD.out.mono ?_; rintro e w4 ⟨rfl,T4,hB4⟩
 have H4:=Lib.hid T4
 clear T4 hB4 e3 e4 e5
 go_wp2
 go_ret
 exact ⟨rfl,_,H4.out.less (fun k hk => hk.elim),HFF.out⟩
theorem act_look (h:Tw w0 w s b σ (fun _ => False)) (hs:Fine rm σ) {key val:List UInt8} {vv:Value} {d a b1:Int} {kind:Int} (k0:¬ kind = 0) (k1:¬ kind = 1) (k2:¬ kind = 2) (k3:¬ kind = 3) (k5:¬ kind = 5) (hk:key.length = 32) (hvo:vv.oneCell' = true) :
 Calls Tryz.prog 17 #[.pointer (some ⟨s,0,none⟩),.pointer (some ⟨b,0,none⟩),.agg (Act7.cells ⟨kind,key,vv,val,d,a,b1⟩)] w fun e w' => e = .returned (.bool true) ∧ ∃ σ',Tw w0 w' s b σ' (fun _ => False) ∧ Fine rm σ':=by
 have q0:=Act7.at_kind (x:=⟨kind,key,vv,val,d,a,b1⟩)
 have q3:=Act7.at_d (x:=⟨kind,key,vv,val,d,a,b1⟩) hk
 have q4:=Act7.at_a (x:=⟨kind,key,vv,val,d,a,b1⟩) hk
 have q5:=Act7.at_b (x:=⟨kind,key,vv,val,d,a,b1⟩) hk
 simp only at q0 q3 q4 q5
 obtain ⟨X,hX⟩:∃ X,X = Act7.cells ⟨kind,key,vv,val,d,a,b1⟩:=⟨_,rfl⟩
 rw [← hX] at q0 q3 q4 q5 ⊢
 have a0:Adds w (w.alloc (.cells X 34)):=(Ch.refl _ _).alloc _
 have hx0:=heap_alloc_new w (.cells X 34)
 have c0:=row_cell hx0 q0
 have T1:Tw w0 (w.alloc (.cells X 34)) s b σ (fun k => k = w.heap.size):=h.more a0 (fun k hk => .inr ⟨by omega,by rw [World.size_alloc]; omega⟩)
 obtain ⟨w1,hw1⟩:∃ w1,w1 = w.alloc (.cells X 34):=⟨_,rfl⟩
 have HQ:=(hIq q3 (aIq q4 q5))
 have HF:=Lib.hid hs
 rw [← hw1] at hx0 T1 c0
 have c3:=row_cell hx0 q3
 have c4:=row_cell hx0 q4
 have c5:=row_cell hx0 q5
 have H1:=(hIq T1 hx0)
 have HW1:=Lib.hid hw1
 clear q0 q3 q4 q5 hX a0 hx0 T1 h hs hk hvo hw1
 go_enter Tryz.func17,Tryz.ntmps17
 go_upto_region 1 with fail
 rw [← HW1.out]
 go_wp2_with fail
 refine (H1.out.1.look HF.out.good a).mono ?_; rintro e w3 ⟨rfl,a3⟩
 have H3:=Lib.hid (H1.out.1.adds a3)
 clear a3 c0 c3 c4 c5
 go_wp2
 go_ret
 exact ⟨rfl,_,H3.out.less (fun k hk => hk.elim),HF.out⟩
end
end Go.Proofs.YtmeglndnkdgkoaaGreat.Store

/- Laws of the layers below. -/
import Derived.ProofKit
import Derived.OpenShut
import Derived.ChangeOld
import Derived.Deep.Slices
import Derived.Test.YtmeglndnkdgkoaaGreatQc20
set_option maxHeartbeats 3200000
set_option maxRecDepth 100000
set_option linter.unusedVariables false
namespace Go.Proofs.YtmeglndnkdgkoaaGreat.Law9
open Go.RowKit Go.Proofs.YtmeglndnkdgkoaaGreat.ShaW Go.Proofs.YtmeglndnkdgkoaaGreat.Path Go.Proofs.YtmeglndnkdgkoaaGreat.Store
theorem wpList_build_one {P:Program} {w:World} {ops:Array Oper} {rest:List Oper} {o:Oper} {a:Act} {Q:Exit → Act → World → Prop} (hgd:o.guard = none) (t k:Nat) (x:Operand) (ho:o.op = .build t #[(k,x)]) (vx:Value) (hx:a.eval x = vx)
 (cells:Array Value) (hf:P.built t [(k,vx)] = some cells) (h:wpList P ops Q rest (a.put o.dst (.agg cells)) w):wpList P ops Q (o :: rest) a w :=
 wpList_build_is hgd t #[(k,x)] ho cells (by simpa [hx] using hf) h
theorem key_built:Tryz.prog.built 31 [] = some (brow (keyL 0)):=by kernel_rfl
theorem key_built1:Tryz.prog.built 31 [(0,.int .u8 128)] = some (brow (keyL 128)):=by kernel_rfl
theorem tree1:(tree 256 (upd [] (keyL 0) [])).nodes = 1 ∧ (tree 256 (upd [] (keyL 0) [])).leaves = 1:=⟨rfl,rfl⟩
theorem tree2:(tree 256 (upd (upd [] (keyL 0) []) (keyL 128) [])).nodes = 3 ∧ (tree 256 (upd (upd [] (keyL 0) []) (keyL 128) [])).leaves = 2:=by
 have h:=ins_tree (L:=upd [] (keyL 0) []) (k:=keyL 128) (v := []) 256 (Nat.le_refl _) ⟨by decide,by decide,fun _ _ _ h => absurd h (Nat.not_lt_zero _)⟩ rfl
 rw [← h]
 exact ⟨by decide +kernel,by decide +kernel⟩
end Go.Proofs.YtmeglndnkdgkoaaGreat.Law9
namespace Go.Proofs.YtmeglndnkdgkoaaGreat
open Go.RowKit Go.Deep Go.ChangeShapes Go.WideShapes Go.ChangeAt
section
variable {H : Type} {enc : TypeId × Value → H} {W : World} {base : Nat} {held : Bool} {n : Nat}
theorem cell_spot (w:World) (a:Addr) (h:a.spot.isSome = true):w.cell? a = none:=by
 unfold World.cell?
 split
 · rw [if_pos h]
 rfl
theorem cells_byte:Tryz.prog.cellsOf 5 = 1:=by kernel_rfl
theorem cells_int:Tryz.prog.cellsOf 3 = 1:=by kernel_rfl
theorem cells_bytes:Tryz.prog.cellsOf 32 = 1:=by kernel_rfl
theorem read_byte {sp:Nat → Bool} {v:Value} {x:DataW H × List MemPlace} (h:DataW.trod enc Tryz.prog W base sp held n 5 [v] = some x):∃ b:UInt8,v = bv b:=by
 obtain ⟨m,e,_,hw⟩:=DataW.trod_int Tryz.underlying5 h
 have hb:=bounds_u8 hw
 refine ⟨UInt8.ofNat m.toNat,?_⟩
 cases e
 have:(UInt8.ofNat m.toNat).toNat = m.toNat:=by simp; omega
 unfold bv
 rw [this]
 congr 1
 omega
theorem read_bytes {cs:List Value} {x:DataW H × List MemPlace} (h:DataW.trod enc Tryz.prog W base (fun _ => true) held n 32 cs = some x) :
 ∃ v bs,cs = [v] ∧ Bytes W v bs ∧ (bs ≠ [] → ∀ k,v.ownBlock = some k → k < W.heap.size):=by
 rcases open_slice1 Tryz.underlying32 cells_byte h with ⟨rfl,_⟩ | ⟨a,len,cap,m,n',V,D,Pl,rfl,hb,hl,hm,hmm,hx,hV⟩
 · exact ⟨_,[],rfl,Bytes.nil W,fun h => absurd rfl h⟩
 simp only [if_true] at hmm
 subst hmm
 have hby:∀ i,i < m → ∃ b:UInt8,V i = bv b:=fun i hi => read_byte (hV i hi).2
 obtain ⟨B,hB⟩:∃ B:Nat → UInt8,∀ i,i < m → V i = bv (B i):=by
  refine ⟨fun i => if hi:i < m then Classical.choose (hby i hi) else 0,fun i hi => ?_⟩
  simp only [dif_pos hi]
  exact Classical.choose_spec (hby i hi)
 have hlen:((List.range len).map B).length = len:=by simp
 have hsp:0 < len → ∃ g off,a = ⟨g,off,none⟩:=fun h0 => by
  obtain ⟨g,off,spot⟩:=a
  cases spot with
  | none => exact ⟨g,off,rfl⟩
  | some s =>
   have k0:=(hV 0 (by omega)).1
   rw [cell_spot _ _ rfl] at k0
   cases k0
 refine ⟨_,(List.range len).map B,rfl,⟨some a,m,by rw [hlen],by rw [hlen]; exact hl,hm,fun j y hj => ?_⟩,fun hne k hk => ?_⟩
 · have hjl:j < len:=by
    have:=(List.getElem?_eq_some_iff.1 hj).1
    simpa using this
   obtain ⟨g,off,rfl⟩:=hsp (by omega)
   refine ⟨g,off,rfl,?_⟩
   have hc:=(hV j (by omega)).1
   rw [hB j (by omega)] at hc
   have hyj:y = B j:=by simp [hjl] at hj; exact hj.symm
   rw [hyj]
   simpa [add_plain] using hc
 have h0:0 < len:=by
  cases len with
  | zero => exact absurd rfl hne
  | succ l => omega
 have hc:=(hV 0 (by omega)).1
 obtain ⟨g,off,rfl⟩:=hsp h0
 cases hk
 have:=cell_block hc
 simpa [add_plain] using this
theorem cells_key:Tryz.prog.cellsOf 31 = 32:=by kernel_rfl
theorem read_key {sp:Nat → Bool} {cs:List Value} {x:DataW H × List MemPlace} (h:DataW.trod enc Tryz.prog W base sp held n 31 cs = some x):∃ k:List UInt8,cs = k.map bv ∧ k.length = 32:=by
 obtain ⟨xs,m,rfl,hx,hl,hxl,hf⟩:=DataW.trod_array Tryz.underlying31 h
 have hl':cs.length = 32:=hl.trans cells_key
 have hby:∀ (i:Nat) (v:Value),cs[i]? = some v → ∃ b:UInt8,v = bv b:=fun i v hv => by
  have hi:i < 32:=by have:=(List.getElem?_eq_some_iff.1 hv).1; omega
  have h1:=hf i hi
  rw [cells_byte,Nat.mul_one] at h1
  have h2:(cs.drop i).take 1 = [v]:=by
   have hlt:i < cs.length:=by omega
   rw [List.drop_eq_getElem_cons hlt]
   rw [List.getElem?_eq_getElem hlt] at hv
   cases hv
   rfl
  rw [h2] at h1
  have hxi:i < xs.length:=by omega
  rw [List.getElem?_eq_getElem hxi] at h1
  exact read_byte h1
 clear hf hl hxl hx h
 have:∀ (l:List Value),(∀ (i:Nat) (v:Value),l[i]? = some v → ∃ b:UInt8,v = bv b) → ∃ k:List UInt8,l = k.map bv:=fun l => by
  induction l with
  | nil => intro _; exact ⟨[],rfl⟩
  | cons a l ih =>
   intro hq
   obtain ⟨b,rfl⟩:=hq 0 a rfl
   obtain ⟨k,rfl⟩:=ih (fun i v hv => hq (i + 1) v (by simpa using hv))
   exact ⟨b :: k,rfl⟩
 obtain ⟨k,rfl⟩:=this cs hby
 exact ⟨k,rfl,by simpa using hl'⟩
def PartAt (w:World) (g o:Nat) (cs:Array Value):Prop := ∃ cur t fr,w.heap[g]? = some (.cells cur t fr) ∧ o + cs.size ≤ cur.size ∧ cur.extract o (o + cs.size) = cs
theorem PartAt.of_cells {w:World} {g o m:Nat} {cs:List Value} (hm:0 < m) (hl:cs.length = m) (h:∀ i,i < m → w.cell? ⟨g,o + i,none⟩ = cs[i]?):PartAt w g o cs.toArray:=by
 have h0:=h 0 hm
 rw [List.getElem?_eq_getElem (by omega)] at h0
 unfold World.cell? at h0
 cases hq:w.heap[g]? with
 | none => simp only [hq] at h0; cases h0
 | some ob =>
  cases ob with
  | cells cur t fr =>
   have hc:∀ i,i < m → cur[o + i]? = cs[i]?:=fun i hi => by
    have:=h i hi
    unfold World.cell? at this
    simpa [hq] using this
   have hlast:=hc (m - 1) (by omega)
   rw [List.getElem?_eq_getElem (show m - 1 < cs.length by omega)] at hlast
   have hsz:=(Array.getElem?_eq_some_iff.1 hlast).1
   have hsz':o + m ≤ cur.size:=by omega
   refine ⟨cur,t,fr,hq,by simpa [hl] using hsz',?_⟩
   apply Array.ext'
   apply List.ext_getElem?
   intro i
   simp only [List.size_toArray,Array.toList_extract,List.extract,hl]
   rw [show o + m - o = m by omega]
   by_cases hi:i < m
   · rw [List.getElem?_take_of_lt hi,List.getElem?_drop,Array.getElem?_toList]
     exact hc i hi
   rw [List.getElem?_eq_none (by simp; omega),List.getElem?_eq_none (by omega)]
  | _ => simp only [hq] at h0; cases h0
theorem PartAt.keep {F:Nat → Prop} {w w':World} {g o:Nat} {cs:Array Value} (h:PartAt w g o cs) (hc:Ch F w w') (hF:¬ F g):PartAt w' g o cs:=by
 obtain ⟨cur,t,fr,h1,h2,h3⟩:=h
 exact ⟨cur,t,fr,hc.row h1 hF,h2,h3⟩
end
end Go.Proofs.YtmeglndnkdgkoaaGreat
namespace Go.Proofs.YtmeglndnkdgkoaaGreat.Law9
open Go.RowKit Go.Proofs.YtmeglndnkdgkoaaGreat.ShaW Go.Proofs.YtmeglndnkdgkoaaGreat.Path Go.Proofs.YtmeglndnkdgkoaaGreat.Store Go.Deep Go.ChangeShapes Go.WideShapes Go.ChangeAt
structure Act9 where
 kind:Int
 key:List UInt8
 vv:Value
 val:List UInt8
 h:Int
def Act9.cells (x:Act9):Array Value:=(.int .i64 x.kind :: (x.key.map bv ++ [x.vv,.int .i64 x.h])).toArray
structure Act9.Good (w:World) (x:Act9):Prop where
 key:x.key.length = 32
 val:Bytes w x.vv x.val
 blk:x.val ≠ [] → ∀ k,x.vv.ownBlock = some k → k < w.heap.size
section
variable {x : Act9} (h : x.key.length = 32)
include h
theorem Act9.size:x.cells.size = 35:=by simp [Act9.cells,h]
omit h in
theorem Act9.list:x.cells.toList = .int .i64 x.kind :: (x.key.map bv ++ [x.vv,.int .i64 x.h]):=rfl
theorem Act9.at_key:x.cells.extract 1 (1 + 32) = brow x.key:=by
 apply Array.ext'
 simp only [Array.toList_extract,List.extract,Act9.list,brow,List.drop_succ_cons,List.drop_zero]
 rw [List.take_append_of_le_length (by simp [h]),List.take_of_length_le (by simp [h])]
theorem Act9.tail (i:Nat):x.cells[33 + i]? = [x.vv,.int .i64 x.h][i]?:=by
 rw [← Array.getElem?_toList,Act9.list,show 33 + i = 32 + i + 1 by omega,List.getElem?_cons_succ,List.getElem?_append_right (by simp [h])]
 simp [h]
theorem Act9.at_val:x.cells[33]? = some x.vv:=Act9.tail h 0
theorem Act9.at_h:x.cells[34]? = some (.int .i64 x.h):=Act9.tail h 1
end
theorem Act9.Good.keep {F:Nat → Prop} {w w':World} {x:Act9} (h:x.Good w) (hc:Ch F w w') (hF:∀ k,F k → w.heap.size ≤ k):x.Good w' :=
 ⟨h.key,h.val.keepw hc (fun h0 k hk hf => by have:=h.blk h0 k hk; have:=hF k hf; omega),fun h0 k hk => Nat.lt_of_lt_of_le (h.blk h0 k hk) hc.size⟩
structure Pr where
 key:List UInt8
 vv:Value
 val:List UInt8
def Pr.cells (x:Pr):Array Value:=(x.key.map bv ++ [x.vv]).toArray
structure Pr.Good (w:World) (x:Pr):Prop where
 key:x.key.length = 32
 val:Bytes w x.vv x.val
 blk:x.val ≠ [] → ∀ k,x.vv.ownBlock = some k → k < w.heap.size
def Pr.ent (x:Pr):List UInt8 × List UInt8:=(x.key,x.val)
section
variable {x : Pr} (h : x.key.length = 32)
include h
theorem Pr.size:x.cells.size = 33:=by simp [Pr.cells,h]
omit h in
theorem Pr.list:x.cells.toList = x.key.map bv ++ [x.vv]:=rfl
theorem Pr.at_key:x.cells.extract 0 (0 + 32) = brow x.key:=by
 apply Array.ext'
 simp only [Array.toList_extract,List.extract,Pr.list,brow,List.drop_zero]
 rw [List.take_append_of_le_length (by simp [h]),List.take_of_length_le (by simp [h])]
theorem Pr.at_val:x.cells[32]? = some x.vv:=by
 rw [← Array.getElem?_toList,Pr.list,List.getElem?_append_right (by simp [h])]
 simp [h]
end
theorem Pr.one {w:World} {x:Pr} (h:x.Good w):∀ v ∈ x.cells.toList,v.oneCell' = true:=fun v hv => by
 rw [Pr.list,List.mem_append,List.mem_map,List.mem_singleton] at hv
 rcases hv with ⟨b,_,rfl⟩ | rfl
 · rfl
 obtain ⟨ao,cap,e,_⟩:=h.val.form
 rw [e]; rfl
theorem Pr.Good.keep {F:Nat → Prop} {w w':World} {x:Pr} (h:x.Good w) (hc:Ch F w w') (hF:∀ k,F k → w.heap.size ≤ k):x.Good w' :=
 ⟨h.key,h.val.keepw hc (fun h0 k hk hf => by have:=h.blk h0 k hk; have:=hF k hf; omega),fun h0 k hk => Nat.lt_of_lt_of_le (h.blk h0 k hk) hc.size⟩
def PairsAt (w:World) (ao:Option Addr) (l:List Pr):Prop:=(∀ x ∈ l,x.Good w) ∧ ∀ i x,l[i]? = some x → ∃ (g off:Nat),ao = some ⟨g,off,none⟩ ∧ PartAt w g (off + i * 33) x.cells
theorem PairsAt.keep {F:Nat → Prop} {w w':World} {ao:Option Addr} {l:List Pr} (h:PairsAt w ao l) (hc:Ch F w w') (hF:∀ k,F k → w.heap.size ≤ k):PairsAt w' ao l:=⟨fun x hx => (h.1 x hx).keep hc hF,fun i x hi => by
 obtain ⟨g,off,h1,h3⟩:=h.2 i x hi
 refine ⟨g,off,h1,h3.keep hc (fun hf => ?_)⟩
 obtain ⟨cur,t,fr,hr,_⟩:=h3
 have:=row_lt hr
 have:=hF g hf
 omega⟩
section
variable {H : Type} {enc : TypeId × Value → H} {W : World} {base : Nat}
theorem cells_act9:Tryz.prog.cellsOf 47 = 35:=by kernel_rfl
theorem cells_path:Tryz.prog.cellsOf 31 = 32:=by kernel_rfl
theorem read_act {n:Nat} {cs:List Value} {y:DataW H × List MemPlace} (h:DataW.trod enc Tryz.prog W base (fun _ => true) true n 47 cs = some y):∃ x:Act9,x.Good W ∧ cs = x.cells.toList:=by
 obtain ⟨xs,m,rfl,hx,hl,hxl,hf⟩:=DataW.trod_struct Tryz.underlying47 h
 rw [cells_act9] at hl
 have hx4:xs.length = 4:=hxl
 have g:=fun i (hi:i < 4) => (List.getElem?_eq_getElem (l:=xs) (i:=i) (by omega))
 have f0:=hf 0 ⟨ "Kind",3,0,false, "", "",0⟩ rfl
 have f1:=hf 1 ⟨ "Key",31,1,false, "", "",8⟩ rfl
 have f2:=hf 2 ⟨ "Value",32,33,false, "", "",40⟩ rfl
 have f3:=hf 3 ⟨ "H",3,34,false, "", "",64⟩ rfl
 rw [g 0 (by omega)] at f0
 rw [g 1 (by omega)] at f1
 rw [g 2 (by omega)] at f2
 rw [g 3 (by omega)] at f3
 simp only [cells_int,cells_path,cells_bytes] at f0 f1 f2 f3
 obtain ⟨n0,e0,_,_⟩:=DataW.trod_int Tryz.underlying3 f0
 obtain ⟨k,e1,hk⟩:=read_key f1
 obtain ⟨v,bs,e2,hb,hv⟩:=read_bytes f2
 obtain ⟨n3,e3,_,_⟩:=DataW.trod_int Tryz.underlying3 f3
 refine ⟨⟨n0,k,v,bs,n3⟩,⟨hk,hb,hv⟩,?_⟩
 have hsplit:cs = cs.take 1 ++ ((cs.drop 1).take 32 ++ ((cs.drop 33).take 1 ++ (cs.drop 34).take 1)):=by
  have a5:(cs.drop 34).take 1 = cs.drop 34:=List.take_of_length_le (by simp [hl])
  have step:∀ i j,cs.drop i = (cs.drop i).take j ++ cs.drop (i + j):=fun i j => by
   conv => lhs; rw [← List.take_append_drop j (cs.drop i)]
   rw [List.drop_drop]
  rw [a5, ← step 33 1, ← step 1 32]
  exact step 0 1
 rw [hsplit]
 simp only [List.drop_zero] at e0
 rw [e0,e1,e2,e3]
 rfl
end
end Go.Proofs.YtmeglndnkdgkoaaGreat.Law9
namespace Go.Proofs.YtmeglndnkdgkoaaGreat.Law9
open Go.RowKit Go.Proofs.YtmeglndnkdgkoaaGreat.ShaW Go.Proofs.YtmeglndnkdgkoaaGreat.Path Go.Proofs.YtmeglndnkdgkoaaGreat.Store
theorem PartAt.cellAt {w:World} {g o:Nat} {cs:Array Value} {i:Nat} {v:Value} (h:PartAt w g o cs) (hi:cs[i]? = some v):w.cell? ⟨g,o + i,none⟩ = some v:=by
 obtain ⟨cur,t,fr,h1,h2,h3⟩:=h
 refine row_cell h1 ?_
 rw [← h3] at hi
 have hlt:=(Array.getElem?_eq_some_iff.1 hi).1
 rw [Array.getElem?_extract] at hi
 simp at hi
 exact hi.2
theorem extract_get {cur cs:Array Value} {o i:Nat} {v:Value} (h3:cur.extract o (o + cs.size) = cs) (hi:cs[i]? = some v):cur[o + i]? = some v:=by
 rw [← h3,Array.getElem?_extract] at hi
 simp at hi
 exact hi.2
theorem extract_part {cur cs K:Array Value} {o n:Nat} (h3:cur.extract o (o + cs.size) = cs) (hn:n ≤ cs.size) (hk:cs.extract 0 (0 + n) = K):cur.extract o (o + n) = K:=by
 rw [← hk, ← h3,Array.extract_extract]
 congr 1
 omega
structure St9 (w0 w:World) (s:Nat) (σ:SlabSt Nd) (root:Int) (L:Ents) (n:Nat) (b:Nat):Prop where
 own:Ow w0 w s σ (fun _ => False)
 db:Db σ root L
 room:σ.room = n
 total:total σ ≤ b
def largeB (l:List Pr):Bool:=decide (16 < l.length) || l.any (fun x => decide (1024 < x.val.length))
def flatP (l:List Pr):List Value:=l.flatMap fun x => x.cells.toList
def KeyOk (l:List Pr):Prop := ∀ x ∈ l,x.key.length = 32
theorem KeyOk.size {l:List Pr} (h:KeyOk l) {x:Pr} (hx:x ∈ l):x.cells.toList.length = 33:=by rw [Array.length_toList]; exact Pr.size (h x hx)
theorem flatP_length:∀ (l:List Pr),KeyOk l → (flatP l).length = l.length * 33
 | [],_ => by simp [flatP]
 | x :: l,h => by
  have ih:=flatP_length l (fun y hy => h y (List.mem_cons_of_mem _ hy))
  have e:flatP (x :: l) = x.cells.toList ++ flatP l:=by simp [flatP]
  rw [e,List.length_append,ih,h.size (List.mem_cons_self ..),List.length_cons]
  omega
theorem flatP_append (l m:List Pr):flatP (l ++ m) = flatP l ++ flatP m:=by simp [flatP]
theorem flatP_split {l:List Pr} {i:Nat} {x:Pr} (hi:l[i]? = some x):flatP l = flatP (l.take i) ++ (x.cells.toList ++ flatP (l.drop (i + 1))):=by
 obtain ⟨hlt,rfl⟩:=List.getElem?_eq_some_iff.1 hi
 have e:=List.take_append_drop i l
 rw [List.drop_eq_getElem_cons hlt] at e
 have e2:flatP l = flatP (l.take i ++ l[i] :: l.drop (i + 1)):=by rw [e]
 have e3:flatP (l[i] :: l.drop (i + 1)) = l[i].cells.toList ++ flatP (l.drop (i + 1)):=List.flatMap_cons
 rw [e2,flatP_append,e3]
theorem flatP_take {l:List Pr} (h:KeyOk l) {i:Nat} (hi:i ≤ l.length):(flatP (l.take i)).length = i * 33:=by
 rw [flatP_length _ (fun x hx => h x (List.mem_of_mem_take hx)),List.length_take,Nat.min_eq_left hi]
theorem flatP_get {l:List Pr} (h:KeyOk l) {i:Nat} {x:Pr} (hi:l[i]? = some x):((flatP l).drop (i * 33)).take 33 = x.cells.toList:=by
 have hlt:=(List.getElem?_eq_some_iff.1 hi).1
 have hs:=h.size (List.mem_of_getElem? hi)
 rw [flatP_split hi,List.drop_append_of_le_length (by rw [flatP_take h (by omega)]; omega),List.drop_eq_nil_of_le (by rw [flatP_take h (by omega)]; omega),List.nil_append,List.take_append_of_le_length (by omega),List.take_of_length_le (by omega)]
theorem flatP_set {l:List Pr} (h:KeyOk l) {i:Nat} (hi:i < l.length) {p:Pr} (hp:p.key.length = 32):splice (flatP l) (i * 33) p.cells.toList = flatP (l.set i p):=by
 have hx:l[i]? = some l[i]:=List.getElem?_eq_getElem hi
 have hp':(l.set i p)[i]? = some p:=by simp [hi]
 have hs:=h.size (List.mem_of_getElem? hx)
 have hps:p.cells.toList.length = 33:=by rw [Array.length_toList]; exact Pr.size hp
 have e2:(l.set i p).take i = l.take i:=by rw [List.take_set_of_le (Nat.le_refl _)]
 have e3:(l.set i p).drop (i + 1) = l.drop (i + 1):=by rw [List.drop_set_of_lt (Nat.lt_succ_self _)]
 rw [flatP_split hp',e2,e3,splice,hps]
 have ht:=flatP_take h (i:=i) (by omega)
 have e4:(flatP l).take (i * 33) = flatP (l.take i):=by
  rw [flatP_split hx,List.take_append_of_le_length (by omega),List.take_of_length_le (by omega)]
 have e5:(flatP l).drop (i * 33 + 33) = flatP (l.drop (i + 1)):=by
  rw [flatP_split hx, ← List.append_assoc,List.drop_append,List.drop_eq_nil_of_le (by rw [List.length_append]; omega),List.nil_append,List.length_append,ht,hs]
  simp
 rw [e4,e5,List.append_assoc]
def RowP (w:World) (b:Nat) (v:Value) (l:List Pr):Prop:=w.ownsRow b 159 33 v l.length (flatP l)
variable {w w' : World} {b : Nat} {v : Value} {l : List Pr}
theorem RowP.form (h:RowP w b v l):∃ ao cap,v = .slice ao l.length cap:=owns_form h
theorem RowP.adds (h:RowP w b v l) (a:Adds w w'):RowP w' b v l:=a.owns h (fun _ _ h => h)
theorem RowP.open (h:RowP w b v l) (hk:KeyOk l) (hl:0 < l.length):∃ g cap cur,v = .slice (some ⟨g,0,none⟩) l.length cap ∧ b ≤ g ∧ w.heap[g]? = some (.cells cur 159 (0,0)) ∧ l.length * 33 ≤ cur.size ∧
 (∀ i x,l[i]? = some x → cur.extract (i * 33) (i * 33 + 33) = x.cells) ∧
 ∀ i p,i < l.length → p.key.length = 32 → RowP (w.setRow g (splice cur.toList (i * 33) p.cells.toList).toArray) b v (l.set i p):=by
 obtain ⟨h0,⟨_,h1⟩ | ⟨g,cap,cur,rfl,hb,hg,hn,hc,hs,ht⟩⟩:=h
 · omega
 have hle:l.length * 33 ≤ cap * 33:=Nat.mul_le_mul_right _ hn
 refine ⟨g,cap,cur,rfl,hb,hg,by omega,fun i x hx => ?_,fun i p hi hp => ?_⟩
 · have hlt:=(List.getElem?_eq_some_iff.1 hx).1
   have hm:i * 33 + 33 ≤ l.length * 33:=by have:=Nat.mul_le_mul_right 33 (show i + 1 ≤ l.length by omega); omega
   apply Array.ext'
   rw [← flatP_get hk hx, ← ht]
   simp only [Array.toList_extract,List.extract]
   rw [List.drop_take,List.take_take,show i * 33 + 33 - i * 33 = 33 by omega,Nat.min_eq_left (by omega)]
 have hps:p.cells.toList.length = 33:=by rw [Array.length_toList]; exact Pr.size hp
 have hm:i * 33 + 33 ≤ l.length * 33:=by have:=Nat.mul_le_mul_right 33 (show i + 1 ≤ l.length by omega); omega
 have hsl:(splice cur.toList (i * 33) p.cells.toList).length = cap * 33:=by
  unfold splice
  rw [List.length_append,List.length_append,List.length_take,List.length_drop,Array.length_toList,hps]
  omega
 have hks:KeyOk (l.set i p):=fun x hx => by
  rcases List.mem_or_eq_of_mem_set hx with h | h
  · exact hk x h
  rw [h]; exact hp
 refine ⟨by rw [flatP_length _ hks],.inr ⟨g,cap,_,by rw [List.length_set],hb,row_setRow_same hg _,by rw [List.length_set]; exact hn,hc,by simpa using hsl,?_⟩⟩
 rw [List.length_set, ← flatP_set hk hi hp, ← ht]
 have hcl:cur.toList.length = cap * 33:=by rw [Array.length_toList]; exact hs
 unfold splice
 rw [hps]
 rw [List.take_append,List.take_append,List.take_of_length_le (l:=cur.toList.take (i * 33)) (by rw [List.length_take]; omega),List.take_take,Nat.min_eq_left (by omega)]
 rw [List.length_append,List.length_take,hcl,hps,Nat.min_eq_left (by omega)]
 rw [List.take_of_length_le (l:=p.cells.toList) (by omega)]
 congr 1
 rw [List.drop_take]
theorem RowP.nil (w:World) (b:Nat):RowP w b (.slice none 0 0) []:=World.ownsRow_nil _ _ _ _
inductive Pairs:List Pr → List Pr → Prop
 | nil:Pairs [] []
 | new {l out:List Pr} {p:Pr} (h:Pairs l out) (hp:∀ q ∈ out,q.key ≠ p.key):Pairs (l ++ [p]) (out ++ [p])
 | old {l out:List Pr} {p q:Pr} {i:Nat} (h:Pairs l out) (hq:out[i]? = some q) (hk:q.key = p.key):Pairs (l ++ [p]) (out.set i p)
end Go.Proofs.YtmeglndnkdgkoaaGreat.Law9
namespace Go.Proofs.YtmeglndnkdgkoaaGreat
open Go.RowKit
section
variable {P : Program} {ops : Array Oper} {Q : Exit → Act → World → Prop} {md : Region.Mode} {S : World → Prop} {k : Nat}
def Till (k:Nat) (S:World → Prop) (listed:Array Bool) (w:World):Prop:=listed.getD k false = true ∨ S w
def wpHeadK (P:Program) (md:Region.Mode) (ops:Array Oper) (Q:Exit → Act → World → Prop) (T:Array Bool → World → Prop) (n:Nat) (L:Array Bool → Act → World → Prop):Nat → Array Bool → Act → World → Prop
 | 0,listed,a,w => L listed a w
 | f + 1,listed,a,w =>
  Region.ready md ops listed ≠ [] ∧ ∀ i ∈ Region.ready md ops listed,i < n ∧ wpOp P ops Q i (fun a' w' => T (listed.setIfInBounds i true) w' ∧ wpHeadK P md ops Q T n L f (listed.setIfInBounds i true) a' w') a w
def wpPlanK (P:Program) (l:List Oper) (Q:Exit → Act → World → Prop) (k:Nat) (S:World → Prop) (n:Nat):List (Nat × Nat) → Bool → Act → World → Prop
 | [],_,a,w => wpList P l.toArray Q (l.drop n) a w
 | (i,0) :: r,past,a,w => ∃ o v,l[i]? = some o ∧ YieldsIf P l.toArray (fun _ => True) o v a ∧ wpPlanK P l Q k S n r past (a.put o.dst v) w
 | (i,1) :: r,past,a,w => ∃ o v,l[i]? = some o ∧ YieldsIf P l.toArray S o v a ∧ wpPlanK P l Q k S n r past (a.put o.dst v) w
 | (i,_ + 2) :: r,past,a,w => wpOp P l.toArray Q i (fun a' w' => ((past || i == k) = true ∨ S w') ∧ wpPlanK P l Q k S n r (past || i == k) a' w') a w
def waitsB (md:Region.Mode) (ops:Array Oper) (k i:Nat):Bool:=match ops[k]? with
 | none => false
 | some o => o.after.any (fun e => Region.binds md e && (e.on == i))
def planKB (md:Region.Mode) (ops:Array Oper) (k n:Nat):List (Nat × Nat) → Array Bool → Bool
 | [],listed => Region.seqB md ops (ops.size - n) n listed
 | (i,0) :: r,listed => decide (i < n) && (i != k) && (Region.ready md ops listed).contains i && Region.free md ops listed i && planKB md ops k n r (listed.setIfInBounds i true)
 | (i,1) :: r,listed => decide (i < n) && (i != k) && waitsB md ops k i && (Region.ready md ops listed).contains i && Region.free md ops listed i && planKB md ops k n r (listed.setIfInBounds i true)
 | (i,_ + 2) :: r,listed => decide (i < n) && decide (Region.ready md ops listed = [i]) && planKB md ops k n r (listed.setIfInBounds i true)
def regionKB (md:Region.Mode) (ops:Array Oper) (k n:Nat) (p:List (Nat × Nat)):Bool :=
 Region.noSelect ops && decide (p.length = n) && decide (n ≤ ops.size) && tailB md ops n && planKB md ops k n p (Array.replicate ops.size false)
end
end Go.Proofs.YtmeglndnkdgkoaaGreat
namespace Go.Proofs.YtmeglndnkdgkoaaGreat.Law9
open Go.RowKit Go.Proofs.YtmeglndnkdgkoaaGreat.ShaW Go.Proofs.YtmeglndnkdgkoaaGreat.Path Go.Proofs.YtmeglndnkdgkoaaGreat.Store
def pick (x:Int) (n:Nat):Int:=if Int.tmod x n < 0 then Int.tmod x n + n else Int.tmod x n
theorem pick_in (x:Int) {n:Nat} (hn:0 < n):0 ≤ pick x n ∧ pick x n < n:=by
 have h1:=Int.lt_tmod_of_pos x (show (0:Int) < n by omega)
 have h2:=Int.tmod_lt_of_pos x (show (0:Int) < n by omega)
 unfold pick
 split <;> omega
def AtOk (out:List Pr) (key:List UInt8) (j:Nat) (x:Int):Prop:=(x = -1 ∧ ∀ i q,i < j → out[i]? = some q → q.key ≠ key) ∨ ∃ (i:Nat) (q:Pr),i < j ∧ x = (i:Int) ∧ out[i]? = some q ∧ q.key = key
theorem pair_parts {cur:Array Value} {o:Nat} {x:Pr} (hk:x.key.length = 32) (h:cur.extract o (o + 33) = x.cells):cur.extract o (o + 32) = brow x.key ∧ cur[o + 32]? = some x.vv:=by
 have hs:=Pr.size hk
 have h':cur.extract o (o + x.cells.size) = x.cells:=by rw [hs]; exact h
 exact ⟨extract_part h' (by rw [hs]; omega) (Pr.at_key hk),extract_get h' (Pr.at_val hk)⟩
theorem sizePr:(Tryz.prog.info? 159).map (·.size) = some 33:=by kernel_rfl
theorem pair_info:∃ i z,Tryz.prog.info? 159 = some i ∧ i.zero = some z ∧ i.size = 33 ∧ i.bytes = 56 ∧ z.cells.size = 33:=by
 obtain ⟨i,h1,h2,h3,h4⟩:=info_parts (P:=Tryz.prog) (e:=159) (z:=.agg (List.replicate 32 (Value.int .u8 0) ++ [Value.slice none 0 0]).toArray) (size:=33) (bytes:=56) (by kernel_rfl)
 exact ⟨i,_,h1,h2,h3,h4,rfl⟩
def IntsAt (w:World) (ao:Option Addr) (len:Nat):Prop := ∀ i,i < len → ∃ (g off:Nat) (x:Int),ao = some ⟨g,off,none⟩ ∧ w.cell? ⟨g,off + i,none⟩ = some (.int .i64 x) ∧ (Lit.int .i64 x).wf = true ∧ g < w.heap.size
theorem keysOf_ents (l:List Pr):keysOf (l.map Pr.ent) = l.map (·.key):=by simp [keysOf,Pr.ent,Function.comp_def]
end Go.Proofs.YtmeglndnkdgkoaaGreat.Law9
namespace Go.Proofs.YtmeglndnkdgkoaaGreat.Store
open Go.RowKit Go.Sort Go.Proofs.YtmeglndnkdgkoaaGreat.ShaW Go.Proofs.YtmeglndnkdgkoaaGreat.Path
theorem cmp_adds (a b:List UInt8) (ha:a.length = 32) (hb:b.length = 32) (w:World) :
 Calls Tryz.prog 172 #[.agg (brow a),.agg (brow b)] w fun e w' => e = .returned (.int .i64 (Lib.compareBytes a b)) ∧ Adds w w' :=
 (Path.Compare_ok a b ha hb w).mono fun e w' ⟨he,q,os,hw⟩ => ⟨he,by
  subst hw
  refine ⟨rfl,rfl,rfl,by simp [grow],fun k hk _ => ?_⟩
  show (w.heap ++ os)[k]? = _
  rw [Array.getElem?_append_left hk]⟩
theorem size_is {w:World} {s:Nat} {F:Nat → Prop} {σ:SlabSt Nd} (h:At w s F σ) (G:Good σ) {n:Int} {d:Nat} {t:Tr} (hr:Rep (sk σ) n d t):(nd σ n).size = (t.leaves:Int) ∧ t.leaves ≤ 65536:=by
 have h1:=hr.size G.fit
 rw [ndF_sk] at h1
 have h2:=ents_le G hr
 rw [Tr.ents_length] at h2
 have:=h.len
 have:=h.room
 refine ⟨?_,by omega⟩
 show (stat (nd σ n)).size = _
 rw [h1]
 unfold wrap64
 omega
end Go.Proofs.YtmeglndnkdgkoaaGreat.Store

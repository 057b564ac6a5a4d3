/- Laws of the layers below. -/
import Derived.Test.YtmeglndnkdgkoaaGreatQe21
set_option maxHeartbeats 3200000
set_option maxRecDepth 100000
set_option linter.unusedVariables false
namespace Go.Proofs.YtmeglndnkdgkoaaGreat.Law9
open Go.RowKit Go.Proofs.YtmeglndnkdgkoaaGreat.ShaW Go.Proofs.YtmeglndnkdgkoaaGreat.Path Go.Proofs.YtmeglndnkdgkoaaGreat.Store
def flatP (l:List Pr):List Value:=l.flatMap fun x => x.cells.toList
def KeyOk (l:List Pr):Prop := ∀ x ∈ l,x.key.length = 32
theorem KeyOk.size {l:List Pr} (h:KeyOk l) {x:Pr} (hx:x ∈ l):x.cells.toList.length = 33:=by rw [Array.length_toList]; exact Pr.size (h x hx)
theorem flatP_length:∀ (l:List Pr),KeyOk l → (flatP l).length = l.length * 33
 | [],_ => by simp [flatP]
 | x :: l,h => by
  have ih:=flatP_length l (fun y hy => h y (List.mem_cons_of_mem _ hy))
  have e:flatP (x :: l) = x.cells.toList ++ flatP l:=by simp [flatP]
  rw [e,List.length_append,ih,h.size (List.mem_cons_self ..),List.length_cons]
  omega
theorem flatP_append (l m:List Pr):flatP (l ++ m) = flatP l ++ flatP m:=by simp [flatP]
theorem flatP_split {l:List Pr} {i:Nat} {x:Pr} (hi:l[i]? = some x):flatP l = flatP (l.take i) ++ (x.cells.toList ++ flatP (l.drop (i + 1))):=by
 obtain ⟨hlt,rfl⟩:=List.getElem?_eq_some_iff.1 hi
 have e:=List.take_append_drop i l
 rw [List.drop_eq_getElem_cons hlt] at e
 have e2:flatP l = flatP (l.take i ++ l[i] :: l.drop (i + 1)):=by rw [e]
 have e3:flatP (l[i] :: l.drop (i + 1)) = l[i].cells.toList ++ flatP (l.drop (i + 1)):=List.flatMap_cons
 rw [e2,flatP_append,e3]
theorem flatP_take {l:List Pr} (h:KeyOk l) {i:Nat} (hi:i ≤ l.length):(flatP (l.take i)).length = i * 33:=by
 rw [flatP_length _ (fun x hx => h x (List.mem_of_mem_take hx)),List.length_take,Nat.min_eq_left hi]
theorem flatP_get {l:List Pr} (h:KeyOk l) {i:Nat} {x:Pr} (hi:l[i]? = some x):((flatP l).drop (i * 33)).take 33 = x.cells.toList:=by
 have hlt:=(List.getElem?_eq_some_iff.1 hi).1
 have hs:=h.size (List.mem_of_getElem? hi)
 rw [flatP_split hi,List.drop_append_of_le_length (by rw [flatP_take h (by omega)]; omega),List.drop_eq_nil_of_le (by rw [flatP_take h (by omega)]; omega),List.nil_append,List.take_append_of_le_length (by omega),List.take_of_length_le (by omega)]
theorem flatP_set {l:List Pr} (h:KeyOk l) {i:Nat} (hi:i < l.length) {p:Pr} (hp:p.key.length = 32):splice (flatP l) (i * 33) p.cells.toList = flatP (l.set i p):=by
 have hx:l[i]? = some l[i]:=List.getElem?_eq_getElem hi
 have hp':(l.set i p)[i]? = some p:=by simp [hi]
 have hs:=h.size (List.mem_of_getElem? hx)
 have hps:p.cells.toList.length = 33:=by rw [Array.length_toList]; exact Pr.size hp
 have e2:(l.set i p).take i = l.take i:=by rw [List.take_set_of_le (Nat.le_refl _)]
 have e3:(l.set i p).drop (i + 1) = l.drop (i + 1):=by rw [List.drop_set_of_lt (Nat.lt_succ_self _)]
 rw [flatP_split hp',e2,e3,splice,hps]
 have ht:=flatP_take h (i:=i) (by omega)
 have e4:(flatP l).take (i * 33) = flatP (l.take i):=by
  rw [flatP_split hx,List.take_append_of_le_length (by omega),List.take_of_length_le (by omega)]
 have e5:(flatP l).drop (i * 33 + 33) = flatP (l.drop (i + 1)):=by
  rw [flatP_split hx, ← List.append_assoc,List.drop_append,List.drop_eq_nil_of_le (by rw [List.length_append]; omega),List.nil_append,List.length_append,ht,hs]
  simp
 rw [e4,e5,List.append_assoc]
def RowP (w:World) (b:Nat) (v:Value) (l:List Pr):Prop:=w.ownsRow b 159 33 v l.length (flatP l)
variable {w w' : World} {b : Nat} {v : Value} {l : List Pr}
theorem RowP.form (h:RowP w b v l):∃ ao cap,v = .slice ao l.length cap:=owns_form h
theorem RowP.adds (h:RowP w b v l) (a:Adds w w'):RowP w' b v l:=a.owns h (fun _ _ h => h)
theorem RowP.open (h:RowP w b v l) (hk:KeyOk l) (hl:0 < l.length):∃ g cap cur,v = .slice (some ⟨g,0,none⟩) l.length cap ∧ b ≤ g ∧ w.heap[g]? = some (.cells cur 159 (0,0)) ∧ l.length * 33 ≤ cur.size ∧
 (∀ i x,l[i]? = some x → cur.extract (i * 33) (i * 33 + 33) = x.cells) ∧
 ∀ i p,i < l.length → p.key.length = 32 → RowP (w.setRow g (splice cur.toList (i * 33) p.cells.toList).toArray) b v (l.set i p):=by
 obtain ⟨h0,⟨_,h1⟩ | ⟨g,cap,cur,rfl,hb,hg,hn,hc,hs,ht⟩⟩:=h
 · omega
 have hle:l.length * 33 ≤ cap * 33:=Nat.mul_le_mul_right _ hn
 refine ⟨g,cap,cur,rfl,hb,hg,by omega,fun i x hx => ?_,fun i p hi hp => ?_⟩
 · have hlt:=(List.getElem?_eq_some_iff.1 hx).1
   have hm:i * 33 + 33 ≤ l.length * 33:=by have:=Nat.mul_le_mul_right 33 (show i + 1 ≤ l.length by omega); omega
   apply Array.ext'
   rw [← flatP_get hk hx, ← ht]
   simp only [Array.toList_extract,List.extract]
   rw [List.drop_take,List.take_take,show i * 33 + 33 - i * 33 = 33 by omega,Nat.min_eq_left (by omega)]
 have hps:p.cells.toList.length = 33:=by rw [Array.length_toList]; exact Pr.size hp
 have hm:i * 33 + 33 ≤ l.length * 33:=by have:=Nat.mul_le_mul_right 33 (show i + 1 ≤ l.length by omega); omega
 have hsl:(splice cur.toList (i * 33) p.cells.toList).length = cap * 33:=by
  unfold splice
  rw [List.length_append,List.length_append,List.length_take,List.length_drop,Array.length_toList,hps]
  omega
 have hks:KeyOk (l.set i p):=fun x hx => by
  rcases List.mem_or_eq_of_mem_set hx with h | h
  · exact hk x h
  rw [h]; exact hp
 refine ⟨by rw [flatP_length _ hks],.inr ⟨g,cap,_,by rw [List.length_set],hb,row_setRow_same hg _,by rw [List.length_set]; exact hn,hc,by simpa using hsl,?_⟩⟩
 rw [List.length_set, ← flatP_set hk hi hp, ← ht]
 have hcl:cur.toList.length = cap * 33:=by rw [Array.length_toList]; exact hs
 unfold splice
 rw [hps]
 rw [List.take_append,List.take_append,List.take_of_length_le (l:=cur.toList.take (i * 33)) (by rw [List.length_take]; omega),List.take_take,Nat.min_eq_left (by omega)]
 rw [List.length_append,List.length_take,hcl,hps,Nat.min_eq_left (by omega)]
 rw [List.take_of_length_le (l:=p.cells.toList) (by omega)]
 congr 1
 rw [List.drop_take]
theorem RowP.nil (w:World) (b:Nat):RowP w b (.slice none 0 0) []:=World.ownsRow_nil _ _ _ _
inductive Pairs:List Pr → List Pr → Prop
 | nil:Pairs [] []
 | new {l out:List Pr} {p:Pr} (h:Pairs l out) (hp:∀ q ∈ out,q.key ≠ p.key):Pairs (l ++ [p]) (out ++ [p])
 | old {l out:List Pr} {p q:Pr} {i:Nat} (h:Pairs l out) (hq:out[i]? = some q) (hk:q.key = p.key):Pairs (l ++ [p]) (out.set i p)
end Go.Proofs.YtmeglndnkdgkoaaGreat.Law9
namespace Go.Proofs.YtmeglndnkdgkoaaGreat
open Go.RowKit
section
variable {P : Program} {ops : Array Oper} {Q : Exit → Act → World → Prop} {md : Region.Mode} {S : World → Prop} {k : Nat}
def Till (k:Nat) (S:World → Prop) (listed:Array Bool) (w:World):Prop:=listed.getD k false = true ∨ S w
def wpHeadK (P:Program) (md:Region.Mode) (ops:Array Oper) (Q:Exit → Act → World → Prop) (T:Array Bool → World → Prop) (n:Nat) (L:Array Bool → Act → World → Prop):Nat → Array Bool → Act → World → Prop
 | 0,listed,a,w => L listed a w
 | f + 1,listed,a,w =>
  Region.ready md ops listed ≠ [] ∧ ∀ i ∈ Region.ready md ops listed,i < n ∧ wpOp P ops Q i (fun a' w' => T (listed.setIfInBounds i true) w' ∧ wpHeadK P md ops Q T n L f (listed.setIfInBounds i true) a' w') a w
def wpPlanK (P:Program) (l:List Oper) (Q:Exit → Act → World → Prop) (k:Nat) (S:World → Prop) (n:Nat):List (Nat × Nat) → Bool → Act → World → Prop
 | [],_,a,w => wpList P l.toArray Q (l.drop n) a w
 | (i,0) :: r,past,a,w => ∃ o v,l[i]? = some o ∧ YieldsIf P l.toArray (fun _ => True) o v a ∧ wpPlanK P l Q k S n r past (a.put o.dst v) w
 | (i,1) :: r,past,a,w => ∃ o v,l[i]? = some o ∧ YieldsIf P l.toArray S o v a ∧ wpPlanK P l Q k S n r past (a.put o.dst v) w
 | (i,_ + 2) :: r,past,a,w => wpOp P l.toArray Q i (fun a' w' => ((past || i == k) = true ∨ S w') ∧ wpPlanK P l Q k S n r (past || i == k) a' w') a w
def waitsB (md:Region.Mode) (ops:Array Oper) (k i:Nat):Bool:=match ops[k]? with
 | none => false
 | some o => o.after.any (fun e => Region.binds md e && (e.on == i))
def planKB (md:Region.Mode) (ops:Array Oper) (k n:Nat):List (Nat × Nat) → Array Bool → Bool
 | [],listed => Region.seqB md ops (ops.size - n) n listed
 | (i,0) :: r,listed => decide (i < n) && (i != k) && (Region.ready md ops listed).contains i && Region.free md ops listed i && planKB md ops k n r (listed.setIfInBounds i true)
 | (i,1) :: r,listed => decide (i < n) && (i != k) && waitsB md ops k i && (Region.ready md ops listed).contains i && Region.free md ops listed i && planKB md ops k n r (listed.setIfInBounds i true)
 | (i,_ + 2) :: r,listed => decide (i < n) && decide (Region.ready md ops listed = [i]) && planKB md ops k n r (listed.setIfInBounds i true)
def regionKB (md:Region.Mode) (ops:Array Oper) (k n:Nat) (p:List (Nat × Nat)):Bool :=
 Region.noSelect ops && decide (p.length = n) && decide (n ≤ ops.size) && tailB md ops n && planKB md ops k n p (Array.replicate ops.size false)
end
end Go.Proofs.YtmeglndnkdgkoaaGreat
namespace Go.Proofs.YtmeglndnkdgkoaaGreat.Law9
open Go.RowKit Go.Proofs.YtmeglndnkdgkoaaGreat.ShaW Go.Proofs.YtmeglndnkdgkoaaGreat.Path Go.Proofs.YtmeglndnkdgkoaaGreat.Store
def pick (x:Int) (n:Nat):Int:=if Int.tmod x n < 0 then Int.tmod x n + n else Int.tmod x n
theorem pick_in (x:Int) {n:Nat} (hn:0 < n):0 ≤ pick x n ∧ pick x n < n:=by
 have h1:=Int.lt_tmod_of_pos x (show (0:Int) < n by omega)
 have h2:=Int.tmod_lt_of_pos x (show (0:Int) < n by omega)
 unfold pick
 split <;> omega
def AtOk (out:List Pr) (key:List UInt8) (j:Nat) (x:Int):Prop:=(x = -1 ∧ ∀ i q,i < j → out[i]? = some q → q.key ≠ key) ∨ ∃ (i:Nat) (q:Pr),i < j ∧ x = (i:Int) ∧ out[i]? = some q ∧ q.key = key
theorem pair_parts {cur:Array Value} {o:Nat} {x:Pr} (hk:x.key.length = 32) (h:cur.extract o (o + 33) = x.cells):cur.extract o (o + 32) = brow x.key ∧ cur[o + 32]? = some x.vv:=by
 have hs:=Pr.size hk
 have h':cur.extract o (o + x.cells.size) = x.cells:=by rw [hs]; exact h
 exact ⟨extract_part h' (by rw [hs]; omega) (Pr.at_key hk),extract_get h' (Pr.at_val hk)⟩
theorem pair_info:∃ i z,Tryz.prog.info? 159 = some i ∧ i.zero = some z ∧ i.size = 33 ∧ i.bytes = 56 ∧ z.cells.size = 33:=by
 obtain ⟨i,h1,h2,h3,h4⟩:=info_parts (P:=Tryz.prog) (e:=159) (z:=.agg (List.replicate 32 (Value.int .u8 0) ++ [Value.slice none 0 0]).toArray) (size:=33) (bytes:=56) (by kernel_rfl)
 exact ⟨i,_,h1,h2,h3,h4,rfl⟩
def IntsAt (w:World) (ao:Option Addr) (len:Nat):Prop := ∀ i,i < len → ∃ (g off:Nat) (x:Int),ao = some ⟨g,off,none⟩ ∧ w.cell? ⟨g,off + i,none⟩ = some (.int .i64 x) ∧ (Lit.int .i64 x).wf = true ∧ g < w.heap.size
end Go.Proofs.YtmeglndnkdgkoaaGreat.Law9
namespace Go.Proofs.YtmeglndnkdgkoaaGreat.Store
open Go.RowKit Go.Sort Go.Proofs.YtmeglndnkdgkoaaGreat.ShaW Go.Proofs.YtmeglndnkdgkoaaGreat.Path Go.Proofs.YtmeglndnkdgkoaaGreat.Law9
def Tr.some (t:Tr) (key:List UInt8) (most:Int):Ents:=if most < 0 then t.from key else (t.from key).take most.toNat
def fromsP (key:List UInt8) (ps:List (Int × Tr)):Ents:=ps.flatMap fun p => p.2.from key
def steps (ps:List (Int × Tr)):Nat:=(ps.map fun p => 2 * p.2.nodes + 1).sum
def Deep (f:View):List (Int × Tr) → Prop
 | [] => True
 | p :: rest => (∃ d,rest.length ≤ d ∧ d ≤ 256 ∧ Rep f p.1 d p.2) ∧ Deep f rest
def Parted (out:List Pr):Prop:=out.Pairwise fun x y => ∀ k,x.vv.ownBlock = some k → y.vv.ownBlock ≠ some k
structure Told (base:Nat) (w:World) (v:Value) (out:List Pr):Prop where
 row:RowP w base v out
 vals:∀ x ∈ out,x.key.length = 32 ∧ Bytes w x.vv x.val ∧ ∀ k,x.vv.ownBlock = some k → base ≤ k ∧ k < w.heap.size ∧ v.ownBlock ≠ some k
 apart:Parted out
structure SomeSt (base:Nat) (wb wr:World) (v9 v10:Value) (out:List Pr) (st:List Int):Prop where
 told:Told base wr v9 out
 pile:wr.ownsRow base 3 1 v10 st.length (il st.reverse)
 one:∀ k,v10.ownBlock = some k → v9.ownBlock ≠ some k ∧ ∀ x ∈ out,x.vv.ownBlock ≠ some k
 world:Adds wb wr
theorem pair_built (T:Array Value) (ao:Option Addr) (n c:Nat) (hT:T.size = 32):Tryz.prog.built 159 [(0,.agg T),(1,.slice ao n c)] = some (T ++ #[.slice ao n c]):=by
 obtain ⟨i,h1,h2,h3,h4⟩:=info_parts (P:=Tryz.prog) (e:=159) (z:=.agg (List.replicate 32 (Value.int .u8 0) ++ [Value.slice none 0 0]).toArray) (size:=33) (bytes:=56) (by kernel_rfl)
 exact built_pair h1 h2 Tryz.underlying159 (by kernel_rfl) (by rfl) (.agg T) (.slice ao n c) hT rfl
section
variable {w : World} {s : Nat} {F : Nat → Prop} {σ : SlabSt Nd} {root : Int} {t : Tr}
def zPair:Array Value:=(List.replicate 32 (Value.int .u8 0) ++ [Value.slice none 0 0]).toArray
end
def Tr.upTo (t:Tr) (b:List UInt8):Nat:=if (nextK b).2 = true then t.rank (nextK b).1 else t.leaves
def Tr.between (t:Tr) (a b:List UInt8):Int:=if Lib.compareBytes b a < 0 then 0 else (t.upTo b:Int) - (t.rank a:Int)

end Go.Proofs.YtmeglndnkdgkoaaGreat.Store
namespace Go.Proofs.YtmeglndnkdgkoaaGreat.Store
open Go.RowKit Go.Proofs.YtmeglndnkdgkoaaGreat.ShaW Go.Proofs.YtmeglndnkdgkoaaGreat.Path
theorem Rnew_ok (n:Int) (w:World) (h1:1 ≤ n) (h2:n ≤ 65536) :
 Calls Tryz.prog 16 #[.int .i64 n] w fun e w' => ∃ b F,e = .returned (.tuple #[.pointer (some ⟨b,0,none⟩),.int .i64 0]) ∧ RAt w' b F ⟨n.toNat,[],[]⟩ ∧ (∀ k,F k → w.heap.size ≤ k) ∧ Adds w w':=by
 have hr:RAt (w.alloc (.cells #[.bool true,.int .i64 n,.slice none 0 0,.slice none 0 0] 126)) w.heap.size (fun k => k = w.heap.size) ⟨n.toNat,[],[]⟩:=by
  refine ⟨⟨by show 1 ≤ n.toNat ∧ n.toNat ≤ 65536; omega,Nat.zero_le _,fun n hn => (by cases hn),Nat.le_refl _,fun x hx => (by cases hx)⟩,.slice none 0 0,.slice none 0 0,?_,World.ownsRow_nil ..,World.ownsRow_nil ..,fun x hx => (by cases hx),rfl,fun k hk => (by cases hk),fun k hk => (by cases hk),fun k hk => ?_⟩
  · have:=heap_alloc_new w (.cells #[.bool true,.int .i64 n,.slice none 0 0,.slice none 0 0] 126)
    rw [show ((⟨n.toNat,[],[]⟩:Rs).space:Int) = n by show ((n.toNat:Nat):Int) = n; omega]
    exact this
  subst hk; simp
 have HR:=Lib.hid hr
 clear hr
 have hbt:Tryz.prog.built 126 [(0,.bool true),(1,.int .i64 n)] = some #[.bool true,.int .i64 n,.slice none 0 0,.slice none 0 0]:=by kernel_rfl
 have d1:decide (n < 1) = false:=decide_eq_false (by omega)
 have d2:decide ((65536:Int) < n) = false:=decide_eq_false (by omega)
 go_enter Tryz.func16,Tryz.ntmps16
 go_wp2
 go_ret2
 exact ⟨_,_,rfl,HR.out,fun k hk => by rw [hk]; exact Nat.le_refl _,(Ch.refl _ _).alloc _⟩
theorem spot_fields:∃ i fs,Tryz.prog.info? 198 = some i ∧ i.zero = some (.agg Sp.zero.cells) ∧ Tryz.prog.underlying 198 = some (.struct fs) ∧
 fs.toList.mapM (fun f => (Tryz.prog.info? f.type).map fun i => (f.offset,i.size)) = some [(0,1),(1,1),(2,33),(35,1),(36,1),(37,1),(38,1)]:=by
 obtain ⟨i,hi⟩:∃ i,Tryz.prog.info? 198 = some i:=Option.isSome_iff_exists.1 (by kernel_rfl)
 have hz:(Tryz.prog.info? 198).bind (·.zero) = some (.agg Sp.zero.cells):=by kernel_rfl
 rw [hi] at hz
 exact ⟨i,_,hi,hz,Tryz.underlying198,by kernel_rfl⟩
def Sp.leaf (K:List UInt8) (v:Value) (bs:List UInt8):Sp:=⟨1,0,K,v,bs,0,0,0,0⟩
def Sp.inner (d l r:Int):Sp:=⟨2,d,Nd.z32,.slice none 0 0,[],l,r,0,0⟩
theorem built_sp_leaf (K:List UInt8) (hK:K.length = 32) (ao:Option Addr) (n c:Nat) (bs:List UInt8) :
 Tryz.prog.built 198 [(0,.int .u8 1),(2,.agg (brow K ++ #[.slice ao n c]))] = some (Sp.leaf K (.slice ao n c) bs).cells:=by
 obtain ⟨i,fs,h1,h2,h3,h4⟩:=spot_fields
 unfold Program.built
 rw [h1,h3]
 simp only [h2,h4]
 show Instr.fill _ Sp.zero.cells _ = _
 rw [fill_step (off:=0) (size:=1) rfl rfl (by rw [Sp.cells_size Sp.zero_ok]; omega)]
 rw [fill_step (off:=2) (size:=33) rfl (by simp [Value.cells,brow_size,hK]) (by simp [splice,Sp.cells_size Sp.zero_ok,Value.cells])]
 show some _ = some _
 congr 1
 apply Array.ext'
 have e:(Value.agg (brow K ++ #[.slice ao n c])).cells.toList = K.map bv ++ [.slice ao n c]:=by simp [Value.cells,brow]
 rw [e]
 show (splice (splice Sp.zero.cells.toList 0 [Value.int .u8 1]) 2 (K.map bv ++ [.slice ao n c])) = _
 rw [Sp.cells_list]
 unfold splice
 rw [show 2 + (K.map bv ++ [Value.slice ao n c]).length = 35 by simp [hK]]
 show [Value.int .u8 1,.int .i64 0] ++ (K.map bv ++ [.slice ao n c]) ++ [Value.int .i64 0,.int .i64 0,.int .i64 0,.int .i64 0] = _
 simp [Sp.leaf,Sp.cells]
theorem built_sp_inner (d l r:Int):Tryz.prog.built 198 [(0,.int .u8 2),(1,.int .i64 d),(3,.int .i64 l),(4,.int .i64 r)] = some (Sp.inner d l r).cells:=by
 kernel_rfl
section
variable {w w' : World} {b : Nat} {F : Nat → Prop} {ρ : Rs} {σ : SlabSt Nd}
theorem RLeaf_bad (h:RAt w b F ρ) (key:Array Value) {vv:Value} {bs:List UInt8} (hb:Bytes w vv bs) {c:Int} (hc:(1024 < bs.length ∧ c = 4) ∨ (bs.length ≤ 1024 ∧ ρ.fullB = true ∧ c = 9)) :
 Calls Tryz.prog 62 #[.pointer (some ⟨b,0,none⟩),.agg key,vv] w fun e w' => e = .returned (.tuple #[.int .i64 0,.int .i64 c]) ∧ Adds w w':=by
 have a0:Adds w (w.alloc (.cells key 31)):=(Ch.refl _ w).alloc _
 have HN:=Lib.hid (RNone_no (h.adds a0))
 have hfu:=Rfull_ok (h.adds a0)
 obtain ⟨ao,cap,rfl,_⟩:=hb.form
 obtain ⟨n,hn⟩:∃ n,n = bs.length:=⟨_,rfl⟩
 rw [← hn] at hc ⊢
 rcases hc with ⟨h1,rfl⟩ | ⟨h1,h2,rfl⟩
 · have d1:decide ((1024:Int) < (n:Int)) = true:=decide_eq_true (by omega)
   clear hfu hb hn h1 h a0
   go_enter Tryz.func62,Tryz.ntmps62
   go_wp2_with fail
   refine HN.out.mono ?_; rintro e w1 ⟨rfl,rfl⟩
   go_wp2
   go_ret2
   exact ⟨rfl,(Ch.refl _ _).alloc _⟩
 have d1:decide ((1024:Int) < (n:Int)) = false:=decide_eq_false (by omega)
 rw [h2] at hfu
 have HF:=Lib.hid hfu
 clear hfu hb hn h1 h2 h a0
 go_enter Tryz.func62,Tryz.ntmps62
 go_wp2_with fail
 refine HN.out.mono ?_; rintro e w1 ⟨rfl,rfl⟩
 go_wp2_with fail
 refine HF.out.mono ?_; rintro e w1 ⟨rfl,a1⟩
 have A1:=Lib.hid a1
 clear a1
 go_wp2
 go_ret2
 exact ⟨rfl,((Ch.refl (fun _ => False) w).alloc _).trans A1.out (fun _ => fEq)⟩
theorem RLeaf_good (h:RAt w b F ρ) (key:List UInt8) (hk:key.length = 32) {vv:Value} {bs:List UInt8} (hb:Bytes w vv bs) (hl:bs.length ≤ 1024) (hfull:ρ.fullB = false) :
 Calls Tryz.prog 62 #[.pointer (some ⟨b,0,none⟩),.agg (brow key),vv] w fun e w' => ∃ v',e = .returned (.tuple #[.int .i64 (ρ.take (Sp.leaf key v' bs)).1,.int .i64 0]) ∧ RMoved w w' b F (ρ.take (Sp.leaf key v' bs)).2:=by
 obtain ⟨K,hK⟩:∃ K,K = brow key:=⟨_,rfl⟩
 have hKs:K.size = 32:=by rw [hK,brow_size,hk]
 have a0:Adds w (w.alloc (.cells K 31)):=(Ch.refl _ w).alloc _
 have HN:=Lib.hid (RNone_no (h.adds a0))
 have hfu:=Rfull_ok (h.adds a0)
 rw [hfull] at hfu
 have HF:=Lib.hid hfu
 have hbw:=hb
 obtain ⟨ao,cap,rfl,_⟩:=hb.form
 obtain ⟨n,hn⟩:∃ n,n = bs.length:=⟨_,rfl⟩
 rw [← hn] at hbw ⊢
 have d1:decide ((1024:Int) < (n:Int)) = false:=decide_eq_false (by omega)
 obtain ⟨i0,p1,p2,p3,p4⟩:=info8
 have HI:=(hIq p1 (aIq p2 (aIq p3 p4)))
 have HKK:=(hIq hKs (aIq hK hk))
 have HB:=(hIq hbw (aIq hl hn))
 have HR:=(hIq h hfull)
 rw [← hK]
 clear hK hKs a0 hfu hb hbw hn hl p1 p2 p3 p4 hk h hfull
 go_enter Tryz.func62,Tryz.ntmps62
 go_wp2_with fail
 refine HN.out.mono ?_; rintro e w1 ⟨rfl,rfl⟩
 go_wp2_with fail
 refine HF.out.mono ?_; rintro e w2 ⟨rfl,a2⟩
 have A2:=(hIq (((Ch.refl (fun _ => False) w).alloc (.cells K 31)).trans a2 (fun _ => fEq)) (a2.row (heap_alloc_new w (.cells K 31)) id))
 clear a2 HN HF
 go_wp2
 refine wp_region_plan (fun wz => wz.heap[w.heap.size]? = some (.cells K 31 (0,0))) 10 [(0,false),(1,false),(2,false),(3,false),(4,true),(5,false),(6,false),(7,true),(8,false),(9,false)] (by kernel_rfl) (by kernel_rfl) ?_ ?_
 · exact row_drew A2.out.2
 refine plan_look rfl rfl (fun w0 hS => (by clear hS; go_simp; try rfl)) ?_
 simp only [Act.put,nAq,nBq,nCq]
 refine plan_load_part (cur:=K) (t:=31) (fr:=(0,0)) rfl rfl 31 _ rfl w.heap.size 0 32 rfl (fun w0 hS => hS) Tryz.underlying31 rfl sizeP (by rw [HKK.out.1]; omega) K (by have:=HKK.out.1; simp [← this]) ?_
 simp only [Act.put,nAq,nBq,nCq]
 iterate 2
  refine plan_look rfl rfl (fun w0 hS => (by clear hS; go_simp; try rfl)) ?_
  simp only [Act.put,nAq,nBq,nCq]
 refine plan_do rfl ?_
 have a2d:Adds w w2.drew:=A2.out.1.trans (Ch.refl (fun _ => False) w2).drew (fun _ => fEq)
 refine wpList_append_copy rfl _ _ 32 rfl 5 i0 Tryz.underlying32 HI.out.1 HI.out.2.1 HI.out.2.2.1 HI.out.2.2.2 rfl _ rfl bs (HB.out.1.keep a2d (fun _ _ h => h)) (by have:=HB.out.2.1; omega) ?_
 intro v' w4 hb4 hk4 hc4
 obtain ⟨av,cv,rfl,_⟩:=hb4.form
 have A4:=(hIq (a2d.trans hc4 (fun _ => fEq)) (aIq (hc4.row (row_drew A2.out.2) id) (aIq hb4 hk4)))
 clear hb4 hk4 hc4 a2d
 refine wpList_nil ?_
 change _ ∧ _
 refine ⟨A4.out.2.1,?_⟩
 simp only [Act.put,nAq,nBq,nCq]
 have hbt:=built_sp_leaf key HKK.out.2.2 av bs.length cv bs
 rw [← HKK.out.2.1] at hbt
 obtain ⟨E,hE⟩:∃ E,E = K ++ #[Value.slice av bs.length cv]:=⟨_,rfl⟩
 have hpt:=pair_built K av bs.length cv HKK.out.1
 rw [← hE] at hbt hpt
 obtain ⟨N,hN⟩:∃ N,N = (Sp.leaf key (.slice av bs.length cv) bs).cells:=⟨_,rfl⟩
 rw [← hN] at hbt
 refine plan_build_two rfl rfl 159 0 1 (.tmp 17) (.tmp 20) rfl (.agg K) (.slice av bs.length cv) rfl rfl _ hpt ?_
 simp only [Act.put,nAq,nBq,nCq]
 refine plan_build_two rfl rfl 198 0 2 (.const (.int .u8 1)) (.tmp 21) rfl (.int .u8 1) (.agg E) rfl rfl _ hbt ?_
 simp only [Act.put,nAq,nBq,nCq]
 have htk:=RTake_ok (HR.out.1.adds A4.out.1) (Sp.leaf key (.slice av bs.length cv) bs) ⟨HKK.out.2.2,⟨_,_,_,rfl⟩,HB.out.2.1⟩ ⟨by show (0:Int) ≤ 0; decide,by show (0:Int) ≤ 2147483648; decide⟩ A4.out.2.2.1 (fun j hj => by
  obtain ⟨q1,q2⟩:=A4.out.2.2.2 j hj
  refine ⟨fun hf => ?_,q2⟩
  obtain ⟨_,_,_,_,_,_,_,_,_,_,h8⟩:=HR.out.1
  have:=h8 j hf
  have h9:=A2.out.1.size
  have h10:w2.drew.heap.size = w2.heap.size:=rfl
  omega) HR.out.2
 rw [← hN] at htk
 have HTK:=Lib.hid htk
 clear htk hbt hpt hE hN
 refine plan_do rfl ?_
 go_wp2_with fail
 refine HTK.out.mono ?_; rintro e w5 ⟨rfl,hm⟩
 have hB5:w5.heap[w.heap.size]? = some (.cells K 31 (0,0)):=by
  obtain ⟨F',g1,g2,g3⟩:=hm
  refine g2.row A4.out.2.1 (fun hf => ?_)
  rcases hf with hf | hf
  · obtain ⟨_,_,_,_,_,_,_,_,_,_,h8⟩:=HR.out.1
    have:=h8 _ hf
    omega
  have h1:=(A4.out.2.2.2 _ hf).1
  have h9:=row_lt A2.out.2
  have h10:w2.drew.heap.size = w2.heap.size:=rfl
  omega
 have hm':RMoved w w5 b F (ρ.take (Sp.leaf key (.slice av bs.length cv) bs)).2:=by
  obtain ⟨F',g1,g2,g3⟩:=hm
  have hnew:∀ j,(Sp.leaf key (.slice av bs.length cv) bs).addr.ownBlock = some j → w.heap.size ≤ j:=fun j hj => by
   have h1:=(A4.out.2.2.2 j hj).1
   have h9:=A2.out.1.size
   have h10:w2.drew.heap.size = w2.heap.size:=rfl
   omega
  refine ⟨F',g1,(A4.out.1.mono (G:=F) (fun _ _ h => h.elim)).trans g2 (fun j hj => hj.imp id (hnew j)),fun j hj => ?_⟩
  rcases g3 j hj with (h | h) | h
  · exact .inl h
  · exact .inr (hnew j h)
  exact .inr (Nat.le_trans A4.out.1.size h)
 have H5:=Lib.hid hm'
 clear hm hm' HTK
 dsimp only
 go_step
 refine wpList_nil ?_
 change _ ∧ _
 refine ⟨hB5,?_⟩
 clear hB5
 iterate 2
  refine plan_look rfl rfl (fun w0 hS => (by clear hS; go_simp; try rfl)) ?_
  simp only [Act.put,nAq,nBq,nCq]
 refine plan_end ?_; simp only [List.drop_succ_cons,List.drop_zero]
 go_wp2
 refine NoPanic.normal ?_
 go_wp2
 go_ret2
 exact ⟨_,rfl,H5.out⟩
theorem RLeaf_ok (h:RAt w b F ρ) (L:Lk σ ρ) (G:Good σ) (key:List UInt8) (hk:key.length = 32) {vv:Value} {bs:List UInt8} (hb:Bytes w vv bs) (v:Value) :
 Calls Tryz.prog 62 #[.pointer (some ⟨b,0,none⟩),.agg (brow key),vv] w fun e w' => e = .returned (.tuple #[.int .i64 (leafS σ key bs v).1,.int .i64 (leafS σ key bs v).2.1]) ∧ ∃ ρ',Lk (leafS σ key bs v).2.2 ρ' ∧ RMoved w w' b F ρ':=by
 unfold leafS
 by_cases h1:1024 < bs.length
 · rw [if_pos h1]
   exact (RLeaf_bad h (brow key) hb (.inl ⟨h1,rfl⟩)).mono fun e w' ⟨he,a⟩ => ⟨he,ρ,L,RMoved.same h a⟩
 rw [if_neg h1]
 have hf:=L.full G.sound.wf
 by_cases hu:σ.used = σ.room
 · rw [decide_eq_true hu] at hf
   have ht:σ.take (Nd.leaf (Tag.leafD key (Tag.valueD bs)) key (Tag.valueD bs) bs v) = (0,9,σ):=by unfold SlabSt.take; rw [if_pos hu]
   rw [ht]
   exact (RLeaf_bad h (brow key) hb (.inr ⟨by omega,hf,rfl⟩)).mono fun e w' ⟨he,a⟩ => ⟨he,ρ,L,RMoved.same h a⟩
 rw [decide_eq_false hu] at hf
 refine (RLeaf_good h key hk hb (by omega) hf).mono ?_
 rintro e w' ⟨v',rfl,hm⟩
 obtain ⟨t1,t2,t3⟩:=L.take G.sound.wf (n:=Nd.leaf (Tag.leafD key (Tag.valueD bs)) key (Tag.valueD bs) bs v) (x:=Sp.leaf key v' bs) (.inr ⟨by simp,rfl,rfl,rfl,rfl,fun _ => rfl,fun h => (by cases h),rfl,rfl⟩) hu
 exact ⟨by rw [t1,t2],_,t3,hm⟩
end
section
variable {w w' : World} {b : Nat} {F : Nat → Prop} {ρ : Rs} {σ : SlabSt Nd}
theorem get_of_has {n:Int} (hh:Store.has σ n = true):∃ s,σ.get? n = some s:=by
 unfold Store.has at hh
 cases hx:σ.get? n with
 | none => rw [hx] at hh; cases hh
 | some x => exact ⟨x,rfl⟩
theorem bump_slots {m:Nat} {s:Nd × Nat} (hs:σ.slots[m]? = some s) (h0:s.2 ≠ 0) (d:Int):bump σ ((m:Int) + 1) d = { σ with slots:=σ.slots.set m (withHeld s.1 (wrap64 (s.1.held + d)),s.2) }:=by
 have hx:=SlabSt.get?_of hs h0
 unfold Store.bump
 rw [if_pos (has_some hx),nd_some hx]
 unfold SlabSt.set
 rw [hx]
 simp only [SlabSt.setAt]
 rw [show ((m:Int) + 1 - 1).toNat = m by omega]
theorem hold_slots {m:Nat} {s:Nd × Nat} (hs:σ.slots[m]? = some s) (h0:s.2 ≠ 0) (h1:s.2 ≠ 1073741824):holdS σ ((m:Int) + 1) = (0, { σ with slots:=σ.slots.set m (withHeld s.1 (wrap64 (s.1.held + 1)),s.2 + 1) }):=by
 have hx:=SlabSt.get?_of hs h0
 have hlt:=(List.getElem?_eq_some_iff.1 hs).1
 have e:σ.hold ((m:Int) + 1) = (0, { σ with slots:=σ.slots.set m (s.1,s.2 + 1) }):=by
  unfold SlabSt.hold
  rw [hx]
  simp only
  rw [if_neg h1]
  simp only [SlabSt.setAt]
  rw [show ((m:Int) + 1 - 1).toNat = m by omega]
 unfold holdS
 rw [e,if_pos rfl,bump_slots (s:=(s.1,s.2 + 1)) (by rw [List.getElem?_set_self hlt]) (by simp)]
 simp
theorem Sound.held_le (hs:Sound σ []) {n:Int} {s:Nd × Nat} (hx:σ.get? n = some s):0 ≤ s.1.held ∧ s.1.held ≤ (s.2:Int) ∧ s.2 ≤ 1073741824:=by
 have h1:=hs.counts n s hx
 have h2:=hs.held n s hx
 obtain ⟨m,_,hm,_,_⟩:=SlabSt.get?_some hx
 have h3:=hs.wf.counts s (List.mem_of_getElem? hm)
 simp only [List.count_nil] at h1
 omega
theorem RHold_lk (h:RAt w b F ρ) (L:Lk σ ρ) (G:Good σ) (n:Int) :
 Calls Tryz.prog 66 #[.pointer (some ⟨b,0,none⟩),.int .i64 n] w fun e w' => e = .returned (.int .i64 (holdS σ n).1) ∧ ∃ ρ',Lk (holdS σ n).2 ρ' ∧ RMoved w w' b F ρ':=by
 refine (RHold_ok h n).mono ?_
 rintro e w' ⟨rfl,hm⟩
 cases hs:σ.get? n with
 | none =>
  have h1:ρ.holdErr n = 7:=by unfold Rs.holdErr; rw [L.has G,has_none hs,if_pos rfl]
  have h2:holdS σ n = (7,σ):=by unfold holdS SlabSt.hold; rw [hs]; rfl
  rw [h1,if_neg (by omega)] at hm
  rw [h1,h2]
  exact ⟨rfl,ρ,L,hm⟩
 | some s =>
  obtain ⟨m,x,rfl,hlt,hsm,hx,h0,hsp,hk,hk0,hle,hri,hv,hkey,hd,ho,hos⟩:=L.some G hs
  obtain ⟨b1,b2,b3⟩:=G.sound.held_le hs
  have hh:ρ.has ((m:Int) + 1) = true:=by rw [L.has G,has_some hs]
  by_cases hmax:s.2 = 1073741824
  · have h1:ρ.holdErr ((m:Int) + 1) = 4:=by unfold Rs.holdErr; rw [hh,if_neg (by simp),hsp,if_pos (by omega)]
    have h2:holdS σ ((m:Int) + 1) = (4,σ):=by unfold holdS SlabSt.hold; rw [hs]; simp [hmax]
    rw [h1,if_neg (by omega)] at hm
    rw [h1,h2]
    exact ⟨rfl,ρ,L,hm⟩
  have h1:ρ.holdErr ((m:Int) + 1) = 0:=by unfold Rs.holdErr; rw [hh,if_neg (by simp),hsp,if_neg (by omega)]
  rw [h1,if_pos rfl,Rs.bumpOwn_at hx] at hm
  rw [h1,hold_slots hsm h0 hmax]
  refine ⟨rfl,_,?_,hm⟩
  refine L.set (.inr ⟨by simp,hk,hle,hri,hv,hkey,hd,?_,?_⟩)
  · show x.own + 1 = wrap64 (s.1.held + 1)
    unfold wrap64; omega
  show x.own + 1 + x.sides = ((s.2 + 1:Nat):Int)
  omega
def Rs.overN (ρ:Rs) (n:Int):Rs:=match ρ.spots[(n - 1).toNat]? with
 | some x => if n = 0 then ρ else ρ.setAt (n - 1).toNat x.over
 | none => ρ
theorem Rs.overN_at {ρ:Rs} {m:Nat} {x:Sp} (hx:ρ.spots[m]? = some x):ρ.overN ((m:Int) + 1) = ρ.setAt m x.over:=by
 unfold Rs.overN
 rw [show ((m:Int) + 1 - 1).toNat = m by omega,hx]
 simp only
 rw [if_neg (by omega)]
theorem Rs.overN_zero (ρ:Rs):ρ.overN 0 = ρ:=by
 unfold Rs.overN
 split
 · rw [if_pos rfl]
 rfl
end
theorem Rep.many {f:View} (hf:Fit f) {h:Int} {d:Nat} {t:Tr} (hr:Rep f h d t):(h ≠ 0 → 1 ≤ t.ents.length) ∧ (t.isNode = true → 2 ≤ t.ents.length) ∧ (∀ n,f h = some n → (t.isNode = true ↔ n.kind = 2)):=by
 induction hr with
 | nil => exact ⟨fun h => absurd rfl h,fun h => (by cases h),fun n hn => (by rw [hf.zero] at hn; cases hn)⟩
 | leaf hn hk => exact ⟨fun _ => Nat.le_refl _,fun h => (by cases h),fun n hn' => (by rw [hn] at hn'; cases hn'; exact ⟨fun h => (by cases h),fun h => (by omega)⟩)⟩
 | @node h d n l r hn hk hd hl hr ihl ihr =>
  have hi:=hf.inner hn hk
  have h2:2 ≤ (l.ents ++ r.ents).length:=by
   rw [List.length_append]
   by_cases h0:n.left = 0
   · obtain ⟨hr0,hk2⟩:=fits_lone_r hi.fits h0
     obtain ⟨y,hy⟩:=hi.right.resolve_left hr0
     rw [ndF_some hy] at hk2
     have:=ihr.2.1 ((ihr.2.2 y hy).2 hk2)
     omega
   by_cases h1:n.right = 0
   · obtain ⟨hl0,hk2⟩:=fits_lone_l hi.fits h1
     obtain ⟨y,hy⟩:=hi.left.resolve_left hl0
     rw [ndF_some hy] at hk2
     have:=ihl.2.1 ((ihl.2.2 y hy).2 hk2)
     omega
   have:=ihl.1 h0
   have:=ihr.1 h1
   omega
  exact ⟨fun _ => Nat.le_trans (by decide) h2,fun _ => h2,fun m hm => (by rw [hn] at hm; cases hm; exact ⟨fun _ => hk,fun _ => rfl⟩)⟩
end Go.Proofs.YtmeglndnkdgkoaaGreat.Store

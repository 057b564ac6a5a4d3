/- Laws of the layers below. -/
import Derived.OrdersIn
import Derived.Test.YtmeglndnkdgkoaaGreatQc36
import Derived.RangeFuncKeeps
import Derived.Shelf.Abstract
import Derived.Shelf.SlSortCmp.WholeK
import Derived.Shelf.SlSortCmp.NoneTotal
import Derived.DeepKeys4
import Derived.WalkArith
set_option maxHeartbeats 3200000
set_option maxRecDepth 100000
set_option linter.unusedVariables false
namespace Go.Proofs.YtmeglndnkdgkoaaGreat
open Go.RowKit
section
variable {F : Fence} {n : Nat} {P : Program} {ops : Array Oper} {Q : Exit → Act → World → Prop} {md : Region.Mode} {S : World → Prop}
def LooksIn (P:Program) (ops:Array Oper) (S:World → Prop) (o:Oper) (v:Value) (a:Act):Prop:=YieldsIf P ops S o v a ∧ ∀ w,o.about P w a.eval = none
def wpAllIn (F:Fence) (n:Nat) (P:Program) (md:Region.Mode) (ops:Array Oper) (Q:Exit → Act → World → Prop) (S:World → Prop):Nat → Array Bool → Act → World → Prop
 | 0,listed,a,w => Region.ready md ops listed = [] ∧ Q .normal a w
 | f + 1,listed,a,w => Region.ready md ops listed ≠ [] ∧ ∀ i ∈ Region.ready md ops listed,wpOpIn F n P ops Q i (fun a' w' => S w' ∧ wpAllIn F n P md ops Q S f (listed.setIfInBounds i true) a' w') a w
def noDefer (ops:Array Oper):Bool:=ops.all fun o => match o.op with | .defer _ => false | _ => true
def wpPlanIn (F:Fence) (n:Nat) (P:Program) (l:List Oper) (Q:Exit → Act → World → Prop) (S:World → Prop):List (Nat × Bool) → Act → World → Prop
 | [],a,w => Q .normal a w
 | (i,false) :: r,a,w => ∃ o v,l[i]? = some o ∧ LooksIn P l.toArray S o v a ∧ wpPlanIn F n P l Q S r (a.put o.dst v) w
 | (i,true) :: r,a,w => wpOpIn F n P l.toArray Q i (fun a' w' => S w' ∧ wpPlanIn F n P l Q S r a' w') a w
def planBI (md:Region.Mode) (ops:Array Oper):List (Nat × Bool) → Array Bool → Bool
 | [],listed => decide (Region.ready md ops listed = [])
 | (i,false) :: r,listed => (Region.ready md ops listed).contains i && Region.free md ops listed i && planBI md ops r (listed.setIfInBounds i true)
 | (i,true) :: r,listed => decide (Region.ready md ops listed = [i]) && planBI md ops r (listed.setIfInBounds i true)
def regionBI (md:Region.Mode) (ops:Array Oper) (p:List (Nat × Bool)):Bool:=Region.noSelect ops && noDefer ops && decide (p.length = ops.size) && planBI md ops p (Array.replicate ops.size false)
end
end Go.Proofs.YtmeglndnkdgkoaaGreat
namespace Go.Proofs.YtmeglndnkdgkoaaGreat.Store
open Go.RowKit Go.Sort Go.Proofs.YtmeglndnkdgkoaaGreat.ShaW Go.Proofs.YtmeglndnkdgkoaaGreat.Path Go.Proofs.YtmeglndnkdgkoaaGreat.Law9
section
variable {w : World} {s : Nat} {F : Nat → Prop} {σ : SlabSt Nd} {root : Int} {t : Tr}
def SeqIs (base:Nat) (w:World) (e:Ents) (q:Value):Prop := ∃ (b:Nat) (v:Value) (out:List Pr),q = .func (.func 175) #[] #[.pointer (some ⟨b,0,none⟩)] ∧ base ≤ b ∧ w.heap[b]? = some (.cells #[v] 63 (0,0)) ∧ Told base w v out ∧ out.map Pr.ent = e ∧ v.ownBlock ≠ some b ∧ ∀ x ∈ out,x.vv.ownBlock ≠ some b
theorem Told.base' {b b':Nat} {v:Value} {out:List Pr} (h:Told b w v out) (hb:b' ≤ b):Told b' w v out :=
 ⟨(show RowP _ _ _ _ from h.row).base (fun k hk => Nat.le_trans hb (h.row.lt k hk).1),fun x hx => by obtain ⟨p,q,r⟩:=h.vals x hx; exact ⟨p,q,fun k hk => ⟨Nat.le_trans hb (r k hk).1,(r k hk).2⟩⟩,h.apart⟩
theorem From_ok (h:At w s F σ) (G:Good σ) (hr:Rep (sk σ) root 0 t) (h0:rootErr σ root = 0) (key:List UInt8) (hk:key.length = 32) :
 Calls Tryz.prog 33 #[.pointer (some ⟨s,0,none⟩),.int .i64 root,.agg (brow key)] w fun e w' => ∃ q,e = .returned q ∧ SeqIs w.heap.size w' (t.from key) q ∧ Adds w w':=by
 obtain ⟨K,hK⟩:∃ K,K = brow key:=⟨_,rfl⟩
 have hKs:K.size = 32:=by rw [hK,brow_size,hk]
 have ha:Adds w (w.alloc (.cells K 31)):=(Ch.refl _ _).alloc _
 have hrt:=Store.Root_ok (h.adds ha) root
 rw [h0] at hrt
 have hrk:=fun w1 (a:Adds w w1) => some_ok (h.adds a) G hr key hk (-1)
 rw [show t.some key (-1) = t.from key by unfold Tr.some; rw [if_pos (by omega)]] at hrk
 rw [← hK] at hrk ⊢
 have HR:=Lib.hid hrt
 have HS:=Lib.hid hrk
 have HK:=Lib.hid hKs
 have HA:=Lib.hid ha
 clear h G hr h0 hrt hrk hK hKs hk ha
 go_enter Tryz.func33,Tryz.ntmps33
 go_wp2_with fail
 refine HR.out.mono ?_; rintro e w1 ⟨rfl,a1⟩
 have A1:=(hIq (HA.out.trans a1 (fun _ => fEq)) (a1.row (box_row w K) id))
 clear a1
 go_wp2_with (first
  | fail
  | ((with_reducible show zOq (.load 31 _)); refine wpList_load_part rfl 31 _ rfl w.heap.size 0 rfl A1.out.2 Tryz.underlying31 rfl sizeP (by rw [HK.out]; omega) K (by have:=HK.out; simp [← this]) ?_))
 refine (HS.out _ A1.out.1).mono ?_; rintro e w2 ⟨v,out,rfl,ht,he,a2⟩
 obtain ⟨vo,vc,rfl⟩:=ht.row.form
 have A2:=(hIq ht (aIq he (aIq (A1.out.1.trans a2 (fun _ => fEq)) A1.out.1.size)))
 obtain ⟨n,hn⟩:∃ n,n = out.length:=⟨_,rfl⟩
 have HN:=Lib.hid hn
 rw [← hn]
 clear a2 ht he hn
 go_wp2_with fail
 refine (over_ok vo n vc w2).mono ?_; rintro e w3 ⟨rfl,hw3⟩
 have a3:Adds w2 w3:=by rw [← hw3]; exact (Ch.refl _ _).alloc _
 have r3:w3.heap[w2.heap.size]? = some (.cells #[.slice vo n vc] 63 (0,0)):=by rw [← hw3]; exact heap_alloc_new _ _
 have A3:=(hIq a3 r3)
 clear hw3 a3 r3
 go_wp2
 go_ret
 have hle:=A2.out.2.2.1.size
 refine ⟨_,rfl,⟨w2.heap.size,_,out,rfl,hle,A3.out.2,?_,A2.out.2.1,?_,?_⟩,A2.out.2.2.1.trans A3.out.1 (fun _ => fEq)⟩
 · have:=(A2.out.1.base' A2.out.2.2.2).adds A3.out.1
   rwa [← HN.out] at this
 · intro e
   have:=(A2.out.1.row.lt _ (by rw [← HN.out]; exact e)).2
   omega
 intro x hx e
 have:=((A2.out.1.vals x hx).2.2 _ e).2.1
 omega
theorem All_of {S:Value} {R:Value → World → Prop} (h:Calls Tryz.prog 33 #[S,.int .i64 root,.agg (brow (List.replicate 32 0))] w fun e w' => ∃ q,e = .returned q ∧ R q w') (hS:∃ p,S = .pointer p) :
 Calls Tryz.prog 32 #[S,.int .i64 root] w fun e w' => ∃ q,e = .returned q ∧ R q w':=by
 obtain ⟨p,rfl⟩:=hS
 have hzb:Tryz.prog.built 31 [] = some (brow (List.replicate 32 0)):=by kernel_rfl
 obtain ⟨Z,hZ⟩:∃ Z,Z = brow (List.replicate 32 0):=⟨_,rfl⟩
 rw [← hZ] at hzb h
 have H:=Lib.hid h
 have HZ:=Lib.hid hzb
 clear h hZ hzb
 go_enter Tryz.func32,Tryz.ntmps32
 go_wp2_with (first
  | fail
  | ((with_reducible show zOq (.build 31 _)); refine wpList_build_none rfl 31 rfl Z HZ.out ?_))
 refine H.out.mono ?_; rintro e w1 ⟨q,rfl,hR⟩
 have HR:=Lib.hid hR
 clear hR
 go_wp2
 go_ret
 exact ⟨_,rfl,HR.out⟩
end
end Go.Proofs.YtmeglndnkdgkoaaGreat.Store
namespace Go.Proofs.YtmeglndnkdgkoaaGreat.Store
open Go.RowKit Go.Shelf Go.Sort Go.Proofs.YtmeglndnkdgkoaaGreat.ShaW Go.Proofs.YtmeglndnkdgkoaaGreat.Path Go.Proofs.YtmeglndnkdgkoaaGreat.Law9
attribute [local go_sem] Oper.semAt_some
theorem keeps_of {F:Nat → Prop} {W W':World} (h:Ch F W W') (hF:∀ k,F k → ∃ cur ty fr,W.heap[k]? = some (.cells cur ty fr)):KeepsOthers W W' :=
 ⟨h.size,fun k o hk ho => by
  by_cases hf:F k
  · obtain ⟨cur,ty,fr,hc⟩:=hF k hf
    rw [hc] at hk
    cases hk
    cases ho
  exact (h.block k (row_lt hk) hf).trans hk⟩
theorem BytesRow.put {W:World} {n0 l:Nat} {v:Value} {bs:List UInt8} {o o':Obj} (h:BytesRow W n0 v bs) (hl:W.heap[l]? = some o) (ho:o.isCells = false):BytesRow (W.putObj l o') n0 v bs:=by
 rcases h with h | ⟨g,cp,all,rfl,h1,h2,h3⟩
 · exact .inl h
 refine .inr ⟨g,cp,all,rfl,h1,?_,h3⟩
 by_cases e:l = g
 · subst e
   rw [h2] at hl
   cases hl
   cases ho
 exact (World.putObj_heap_other (Ne.symm e)).trans h2
theorem zip_two {α:Type} (t:Array α) (p1 p2:Nat) (v1 v2:α):(#[p1,p2].zip #[v1,v2]).foldl (fun t (p,v) => t.setIfInBounds p v) t = (t.setIfInBounds p1 v1).setIfInBounds p2 v2:=by
 rw [show #[p1,p2].zip #[v1,v2] = #[(p1,v1),(p2,v2)] by simp]
 rfl
structure GoI (w:World) (wv:Value) (stop:Int) (m:Nat) (W:World):Prop where
 adds:Adds w W
 want:W.heap[w.heap.size]? = some (.cells #[wv] 63 (0,0))
 stop:W.heap[w.heap.size + 1]? = some (.cells #[.int .i64 stop] 3 (0,0))
 ans:W.heap[w.heap.size + 2]? = some (.cells #[.bool false] 4 (0,0))
 cnt:W.heap[w.heap.size + 3]? = some (.cells #[.int .i64 (m:Nat)] 3 (0,0))
def GoX (w:World) (c:Code) (W:World):Prop:=c = .ret ∧ Adds w W ∧ W.heap[w.heap.size + 2]? = some (.cells #[.bool true] 4 (0,0))
def goFrame (w:World) (q wv:Value) (stop:Int) (p:Nat) (k:Array Value) (v:Value):Array Value :=
 #[q,wv,.int .i64 stop,undef,.pointer (some ⟨w.heap.size,0,none⟩),.pointer (some ⟨w.heap.size + 1,0,none⟩),.pointer (some ⟨w.heap.size + 1 + 1,0,none⟩),.pointer (some ⟨w.heap.size + 1 + 1 + 1,0,none⟩),.pointer (some ⟨p,0,none⟩),v,q,.bool false,q,.agg k,v,
  undef,undef,undef,undef,undef,undef,undef,undef,undef,undef,undef,undef,undef,undef,undef,undef,undef,undef,undef,undef,undef,undef,undef,undef,undef,undef,undef,undef,undef,undef,undef,undef,undef,undef]
structure GoB (w:World) (q wv:Value) (stop:Int) (out:List Pr) (pre:List Pr) (x:Pr) (a:Act) (p:Nat) (W:World):Prop where
 act:a = { tmps:=goFrame w q wv stop p (brow x.key) x.vv,defers := [] }
 inv:GoI w wv stop pre.length W
 yv:Yv w.heap.size out pre x W
 box:W.heap[p]? = some (.cells (brow x.key) 31 (0,0))
 far:w.heap.size + 4 ≤ p
theorem Yv.put {n0 l:Nat} {out pre:List Pr} {x:Pr} {W:World} {o o':Obj} (h:Yv n0 out pre x W) (hl:W.heap[l]? = some o) (ho:o.isCells = false):Yv n0 out pre x (W.putObj l o'):=by
 obtain ⟨y,h1,h2,h3,h4,h5⟩:=h
 exact ⟨y,h1,h2,h3,h4,h5.put hl ho⟩
theorem Yv.keep {n0:Nat} {out pre:List Pr} {x:Pr} {W W':World} (h:Yv n0 out pre x W) (a:Adds W W'):Yv n0 out pre x W':=by
 obtain ⟨y,h1,h2,h3,h4,h5⟩:=h
 exact ⟨y,h1,h2,h3,h4,h5.keep a (fun _ _ h => h)⟩
end Go.Proofs.YtmeglndnkdgkoaaGreat.Store
namespace Go.Proofs.YtmeglndnkdgkoaaGreat
open Go.Shelf
def sortPairs_ren:Go.Shelf.Ren:=⟨fun | 6 => 214 | 15 => 206 | 14 => 237 | 28 => 230 | 29 => 231 | 20 => 249 | 21 => 250 | 22 => 251 | 23 => 252 | 24 => 253 | 25 => 254 | 26 => 255 | 27 => 256 | 46 => 262 | 47 => 240 | 48 => 241 | 49 => 263 | 50 => 264 | 57 => 265 | n => n,fun | 22 => 63 | 24 => 159 | 25 => 268 | 3 => 3 | 39 => 260 | 0 => 0 | 53 => 282 | 55 => 284 | 4 => 4 | 46 => 274 | 45 => 273 | 50 => 279 | 5 => 5 | 9 => 9 | 66 => 295 | 70 => 299 | 76 => 311 | 77 => 154 | n => n,fun | n => n⟩
theorem sortPairs:Go.Proofs.SlLaysF0.n6 Tryz.prog sortPairs_ren := {
 mixed:=by kernel_rfl
 f6:=⟨Tryz.f214.name,by decide,Tryz.func214.trans (congrArg some (by kernel_rfl))⟩
 f14:=⟨Tryz.f237.name,by decide,Tryz.func237.trans (congrArg some (by kernel_rfl))⟩
 f15:=Tryz.func206.trans (congrArg some (by kernel_rfl))
 f20:=⟨Tryz.f249.name,by decide,Tryz.func249.trans (congrArg some (by kernel_rfl))⟩
 f21:=⟨Tryz.f250.name,by decide,Tryz.func250.trans (congrArg some (by kernel_rfl))⟩
 f22:=⟨Tryz.f251.name,by decide,Tryz.func251.trans (congrArg some (by kernel_rfl))⟩
 f23:=⟨Tryz.f252.name,by decide,Tryz.func252.trans (congrArg some (by kernel_rfl))⟩
 f24:=⟨Tryz.f253.name,by decide,Tryz.func253.trans (congrArg some (by kernel_rfl))⟩
 f25:=⟨Tryz.f254.name,by decide,Tryz.func254.trans (congrArg some (by kernel_rfl))⟩
 f26:=⟨Tryz.f255.name,by decide,Tryz.func255.trans (congrArg some (by kernel_rfl))⟩
 f27:=⟨Tryz.f256.name,by decide,Tryz.func256.trans (congrArg some (by kernel_rfl))⟩
 f28:=Tryz.func230.trans (congrArg some (by kernel_rfl))
 f29:=Tryz.func231.trans (congrArg some (by kernel_rfl))
 f46:=⟨Tryz.f262.name,by decide,Tryz.func262.trans (congrArg some (by kernel_rfl))⟩
 f47:=Tryz.func240.trans (congrArg some (by kernel_rfl))
 f48:=Tryz.func241.trans (congrArg some (by kernel_rfl))
 f49:=⟨Tryz.f263.name,by decide,Tryz.func263.trans (congrArg some (by kernel_rfl))⟩
 f50:=⟨Tryz.f264.name,by decide,Tryz.func264.trans (congrArg some (by kernel_rfl))⟩
 f57:=⟨Tryz.f265.name,by decide,Tryz.func265.trans (congrArg some (by kernel_rfl))⟩
 t0:=Tryz.underlying0
 a0:=Tryz.isAgg0
 z0:=Tryz.sizeOf0
 v0:=Tryz.zeroValue0
 t3:=Tryz.underlying3
 a3:=Tryz.isAgg3
 z3:=Tryz.sizeOf3
 v3:=Tryz.zeroValue3
 t4:=Tryz.underlying4
 a4:=Tryz.isAgg4
 z4:=Tryz.sizeOf4
 v4:=Tryz.zeroValue4
 t5:=Tryz.underlying5
 a5:=Tryz.isAgg5
 z5:=Tryz.sizeOf5
 v5:=Tryz.zeroValue5
 t9:=Tryz.underlying9
 a9:=Tryz.isAgg9
 z9:=Tryz.sizeOf9
 v9:=Tryz.zeroValue9
 t22:=Tryz.underlying63
 a22:=Tryz.isAgg63
 z22:=Tryz.sizeOf63
 v22:=Tryz.zeroValue63
 t25:=Tryz.underlying268
 a25:=Tryz.isAgg268
 z25:=Tryz.sizeOf268
 v25:=Tryz.zeroValue268
 t39:=Tryz.underlying260
 a39:=Tryz.isAgg260
 z39:=Tryz.sizeOf260
 v39:=Tryz.zeroValue260
 t45:=Tryz.underlying273
 a45:=Tryz.isAgg273
 z45:=Tryz.sizeOf273
 v45:=Tryz.zeroValue273
 t46:=Tryz.underlying274
 a46:=Tryz.isAgg274
 z46:=Tryz.sizeOf274
 v46:=Tryz.zeroValue274
 t50:=Tryz.underlying279
 a50:=Tryz.isAgg279
 z50:=Tryz.sizeOf279
 v50:=Tryz.zeroValue279
 t53:=Tryz.underlying282
 a53:=Tryz.isAgg282
 z53:=Tryz.sizeOf282
 v53:=Tryz.zeroValue282
 t55:=Tryz.underlying284
 a55:=Tryz.isAgg284
 z55:=Tryz.sizeOf284
 v55:=Tryz.zeroValue284
 t66:=Tryz.underlying295
 a66:=Tryz.isAgg295
 z66:=Tryz.sizeOf295
 v66:=Tryz.zeroValue295
 t70:=Tryz.underlying299
 a70:=Tryz.isAgg299
 z70:=Tryz.sizeOf299
 v70:=Tryz.zeroValue299
 t76:=Tryz.underlying311
 a76:=Tryz.isAgg311
 z76:=Tryz.sizeOf311
 v76:=Tryz.zeroValue311
 t77:=Tryz.underlying154
 a77:=Tryz.isAgg154
 z77:=Tryz.sizeOf154
 v77:=Tryz.zeroValue154 }
end Go.Proofs.YtmeglndnkdgkoaaGreat
namespace Go.Proofs.YtmeglndnkdgkoaaGreat.Law9
open Go.RowKit Go.Sort Go.Proofs.YtmeglndnkdgkoaaGreat.ShaW Go.Proofs.YtmeglndnkdgkoaaGreat.Path Go.Proofs.YtmeglndnkdgkoaaGreat.Store
structure PrK where
 p:Pr
 len:p.key.length = 32
 one:p.vv.oneCell' = true
instance:Inhabited PrK:=⟨⟨⟨List.replicate 32 0,.slice none 0 0,[]⟩,rfl,rfl⟩⟩
def encP (x:PrK):List Value:=x.p.cells.toList
theorem encP_len (x:PrK):(encP x).length = 33:=by rw [encP,Array.length_toList]; exact Pr.size x.len
theorem encP_one (x:PrK):∀ v ∈ encP x,v.oneCell' = true:=fun v hv => by
 unfold encP at hv
 rw [Pr.list] at hv
 rcases List.mem_append.1 hv with h | h
 · exact map_bv_one _ v h
 simp at h; rw [h]; exact x.one
def cmpP (x y:PrK):Int:=Lib.compareBytes x.p.key y.p.key
theorem ltP (x y:PrK):ltOf cmpP x y = decide (Lib.compareBytes x.p.key y.p.key < 0):=rfl
theorem swoP:SWO (ltOf cmpP) where
 irrefl x:=by rw [ltP,cmp_self]; rfl
 trans x y z h1 h2:=by
  rw [ltP] at *
  exact decide_eq_true (cmp_lt_trans _ _ _ (of_decide_eq_true h1) (of_decide_eq_true h2))
 ntrans x y z h1 h2:=by
  rw [ltP] at *
  exact decide_eq_false (cmp_ge_trans _ _ _ (of_decide_eq_false h1) (of_decide_eq_false h2))
theorem grow_drewN (w:World) (os:Array Obj) (q:Nat):(grow w os).drewN q = grow (w.drewN q) os:=rfl
theorem closure_ok (x y:PrK) (W:World):Calls Tryz.prog 215 #[.agg (encP x).toArray,.agg (encP y).toArray] W fun e w' => e = .returned (.int .i64 (cmpP x y)) ∧ ∃ q os,w' = grow (W.drewN q) os:=by
 obtain ⟨A,hA⟩:∃ A,A = x.p.cells:=⟨_,rfl⟩
 obtain ⟨B,hB⟩:∃ B,B = y.p.cells:=⟨_,rfl⟩
 have hc:=Compare_ok x.p.key y.p.key x.len y.len ((W.alloc (.cells A 159)).alloc (.cells B 159))
 have ka:=Pr.at_key x.len
 have kb:=Pr.at_key y.len
 have sa:=Pr.size x.len
 have sb:=Pr.size y.len
 unfold encP cmpP
 rw [Array.toArray_toList,Array.toArray_toList]
 rw [← hA] at ka sa ⊢
 rw [← hB] at kb sb ⊢
 obtain ⟨KA,hKA⟩:∃ K,K = brow x.p.key:=⟨_,rfl⟩
 obtain ⟨KB,hKB⟩:∃ K,K = brow y.p.key:=⟨_,rfl⟩
 rw [← hKA] at ka hc
 rw [← hKB] at kb hc
 generalize Lib.compareBytes x.p.key y.p.key = r at hc ⊢
 have g1:((W.alloc (.cells A 159)).alloc (.cells B 159)).heap[W.heap.size]? = some (.cells A 159 (0,0)):=row_alloc (heap_alloc_new _ _) _
 have g2:((W.alloc (.cells A 159)).alloc (.cells B 159)).heap[W.heap.size + 1]? = some (.cells B 159 (0,0)):=by
  have:=heap_alloc_new (W.alloc (.cells A 159)) (.cells B 159)
  simpa using this
 have G1:=Lib.hid g1
 have G2:=Lib.hid g2
 have HC:=Lib.hid hc
 have HK:=(hIq ka kb)
 have HS:=(hIq sa sb)
 clear hA hB hKA hKB g1 g2 hc ka kb sa sb
 go_enter Tryz.func215,Tryz.ntmps215
 go_wp2_with (first
  | fail
  | ((with_reducible show zOq (.load 31 _)); refine wpList_load_part rfl 31 _ rfl W.heap.size 0 rfl G1.out Tryz.underlying31 rfl sizeP (by rw [HS.out.1]; omega) KA HK.out.1 ?_)
  | ((with_reducible show zOq (.load 31 _)); refine wpList_load_part rfl 31 _ rfl (W.heap.size + 1) 0 rfl G2.out Tryz.underlying31 rfl sizeP (by rw [HS.out.2]; omega) KB HK.out.2 ?_))
 refine HC.out.mono ?_; rintro e w1 ⟨rfl,q,os,rfl⟩
 go_wp2
 go_ret
 refine ⟨rfl,q, #[.cells A 159,.cells B 159] ++ os,?_⟩
 rw [alloc_eq_grow,alloc_eq_grow,grow_grow,grow_drewN,grow_grow]
 rfl
theorem cmpLays (blk off size:Nat) (w:World):CmpLays Tryz.prog 215 #[] encP 33 cmpP blk off size w:=fun _ _ _ _ x y => closure_ok x y _
theorem pairs_holds {w:World} {g:Nat} {t:TypeId} {cur:Array Value} {d:Array PrK} (hg:w.heap[g]? = some (.cells cur t (0,0))) (hx:∀ i x,d[i]? = some x → i * 33 + 33 ≤ cur.size ∧ cur.extract (i * 33) (i * 33 + 33) = x.p.cells):HoldsK encP 33 w g 0 d:=by
 intro j hj
 rw [size_flatK] at hj
 have hi:j / 33 < d.size:=by omega
 obtain ⟨h1,h2⟩:=hx (j / 33) _ (Array.getElem?_eq_getElem hi)
 refine ⟨?_,row_free hg _⟩
 rw [get_flatK encP 33 d j hj]
 have hm:j % 33 < 33:=Nat.mod_lt _ (by omega)
 have hs:=Pr.size (d[j / 33]).len
 have e1:cur[j]? = some (encP d[j / 33]!)[j % 33]!:=by
  have e2:(cur.extract (j / 33 * 33) (j / 33 * 33 + 33))[j % 33]? = cur[j]?:=by
   rw [Array.getElem?_extract,if_pos (by omega)]
   congr 1
   omega
  rw [← e2,h2,getElem!_pos d (j / 33) hi]
  unfold encP
  rw [getElem!_pos _ _ (by rw [Array.length_toList,hs]; exact hm),Array.getElem?_eq_getElem (by rw [hs]; exact hm)]
  simp
 rw [Nat.zero_add]
 exact row_cell hg e1
theorem holds_pairs {w:World} {g:Nat} {d:Array PrK} (h:HoldsK encP 33 w g 0 d) {i:Nat} {x:PrK} (hx:d[i]? = some x):PartAt w g (0 + i * 33) x.p.cells:=by
 have hi:=(Array.getElem?_eq_some_iff.1 hx).1
 have hd:d[i]! = x:=by rw [getElem!_pos d i hi]; exact (Array.getElem?_eq_some_iff.1 hx).2
 have:=PartAt.of_cells (w:=w) (g:=g) (o:=0 + i * 33) (m:=33) (cs:=encP x) (by omega) (encP_len x) (fun c hc => by
  have h1:=h (i * 33 + c) (by rw [size_flatK]; omega)
  rw [get_flatK encP 33 d _ (by omega),show (i * 33 + c) / 33 = i by omega,show (i * 33 + c) % 33 = c by omega,hd] at h1
  rw [show 0 + i * 33 + c = 0 + (i * 33 + c) by omega]
  rw [h1.1,List.getElem?_eq_getElem (by rw [encP_len]; exact hc),getElem!_pos _ _ (by rw [encP_len]; exact hc)]
  rfl)
 rwa [encP,Array.toArray_toList] at this
theorem sorted_ch (w:World) (g n:Nat) (d':Array PrK) (os:Array Obj):Ch (fun k => k = g) w (sortWorldK encP 33 w g 0 n d' os):=by
 unfold sortWorldK grow putRowK Go.Sort.putRow Go.Sort.mapBlock Go.Sort.ahead
 refine ⟨rfl,rfl,rfl,by simp,fun k hk hn => ?_⟩
 simp only [Array.getElem?_append,Array.size_modify,hk,if_true,Array.getElem?_modify]
 rw [if_neg (fun e => hn e.symm)]
theorem sort_ok {w:World} {g cap:Nat} {d:Array PrK} (hH:HoldsK encP 33 w g 0 d) (hg:g < w.heap.size) (hn:d.size < 4611686018427387904) :
 Calls Tryz.prog 214 #[.slice (some ⟨g,0,none⟩) d.size cap,.func (.func 215) #[] #[]] w fun e w' => e = .returned (.tuple #[]) ∧
  ∃ d':Array PrK,d'.size = d.size ∧ d'.toList.Perm d.toList ∧ d'.toList.Pairwise (fun x y => ¬ Lib.compareBytes y.p.key x.p.key < 0) ∧ HoldsK encP 33 w' g 0 d' ∧ Ch (fun k => k = g) w w':=by
 have eg:∀ args w,(callFunc 215 args).run Tryz.prog w = .ok (.enter 215 args) w:=enters_of Tryz.func215 (by kernel_rfl) rfl
 have hcon:=AnyQ.slices_SortFunc sortPairs 33 Tryz.isAgg159 Tryz.sizeOf159 encP encP_len encP_one cmpP swoP 215 #[] g 0 cap d w eg (cmpLays g 0 d.size w) hH hg hn
 refine Calls.mono hcon fun e w' ⟨he,d',n,os,hp,hs,hw⟩ => ⟨he,d',hp.1,?_,?_,?_,?_⟩
 · have:=hp.2.2
   rwa [show d'.extract 0 d.size = d' by rw [← hp.1,Array.extract_size],Array.extract_size] at this
 · rw [List.pairwise_iff_getElem]
   intro i j hi hj hij
   have hi':i < d'.size:=by simpa using hi
   have hj':j < d'.size:=by simpa using hj
   have:=hs i j (Nat.zero_le _) hij (by rw [← hp.1]; exact hj')
   rw [ltP,getElem!_pos d' i hi',getElem!_pos d' j hj'] at this
   simpa using this
 · rw [hw]
   exact holdsK_sortWorldK_c encP 33 w g 0 d d' n os hH hg hp.1
 rw [hw]
 exact sorted_ch w g n d' os
end Go.Proofs.YtmeglndnkdgkoaaGreat.Law9
namespace Go.Proofs.YtmeglndnkdgkoaaGreat.Store
open Go.RowKit Go.Proofs.YtmeglndnkdgkoaaGreat.Path Go.Maps
theorem laidOut0:laidOutB Tryz.prog = true:=by kernel_rfl
theorem lawP:Keyed Tryz.prog 31:=Keyed.of_law (deep_law_laid laidOut0 (m:=2) (by omega) (of_decide_eq_true (by kernel_rfl)) (by kernel_rfl) (by kernel_rfl))
theorem keyTypeP:Tryz.prog.keyType 31 = true:=by kernel_rfl
theorem cellsP:Tryz.prog.cellsOf 31 = 32:=by kernel_rfl
theorem cellsU8:Tryz.prog.cellsOf 5 = 1:=by kernel_rfl
theorem mapM_of {α β:Type} {f:α → Option β} {g:α → β}:∀ (l:List α),(∀ x ∈ l,f x = some (g x)) → l.mapM f = some (l.map g)
 | [],_ => rfl
 | x :: l,h => by
  rw [List.mapM_cons,h x (by simp),mapM_of l (fun y hy => h y (by simp [hy]))]
  rfl
theorem keyOf_path (k:List UInt8) (hk:k.length = 32):∃ l,keyOf Tryz.prog 31 (.agg (brow k)) = some l:=by
 have hsz:(brow k).size = 32:=by simp [brow,hk]
 have hf:Value.formed Tryz.prog 31 (.agg (brow k)) = true:=by
  unfold Value.formed
  simp only [Tryz.underlying31,cellsP,hsz]
  rfl
 have hl:∀ n,Tryz.prog.keyLits (n + 2) 31 (brow k).toList = some (((List.range 32).map fun i => [Lit.int .u8 ((k.getD i 0).toNat:Int)]).flatten):=fun n => by
  unfold Program.keyLits
  simp only [Tryz.underlying31]
  rw [if_pos (by rw [cellsP,Array.length_toList,hsz]),mapM_of (g:=fun i => [Lit.int .u8 ((k.getD i 0).toNat:Int)])]
  · rfl
  intro i hi
  have hi:i < 32:=List.mem_range.1 hi
  have hg:((brow k).toList.drop (i * Tryz.prog.cellsOf 5)).take (Tryz.prog.cellsOf 5) = [bv (k.getD i 0)]:=by
   rw [cellsU8,Nat.mul_one]
   have h1:i < (brow k).toList.length:=by rw [Array.length_toList,hsz]; exact hi
   rw [List.drop_eq_getElem_cons h1]
   have:=brow_get (l:=k) (i:=i) (by omega)
   rw [Array.getElem?_eq_getElem (by rw [hsz]; exact hi)] at this
   injection this with this
   simp [this]
  rw [hg]
  unfold Program.keyLits
  simp only [Tryz.underlying5,bv]
  have:=(k.getD i 0).toNat_lt
  rw [if_pos ⟨trivial,WalkArith.wf_u8 ⟨by omega,by omega⟩⟩]
 unfold keyOf
 simp only [Tryz.underlying31,keyTypeP,hf]
 obtain ⟨m,hm⟩:∃ m,Tryz.prog.types.size + 1 = m + 2:=⟨Tryz.prog.types.size - 1,by have:1 ≤ Tryz.prog.types.size:=of_decide_eq_true (by kernel_rfl); omega⟩
 rw [hm]
 have e:=hl m
 show ∃ l,Option.map _ (Tryz.prog.keyLits (m + 2) 31 (brow k).toList) = some l
 rw [e]
 exact ⟨_,rfl⟩
theorem plainElem_bool_inv {H:Type} {P:Program} {e:TypeId} (he:P.underlying e = some .bool) {v:Value} {z:DataW H × List MemPlace} (h:plainElem P e v = some z):∃ x,v = .bool x ∧ z = (.lit (.bool x),[]):=by
 unfold plainElem at h
 rw [he] at h
 cases v <;> simp at h
 exact ⟨_,rfl,h.symm⟩
noncomputable abbrev elemB:Value → Option (DataW Value × List MemPlace):=plainElem Tryz.prog 4
noncomputable def kl (k:List UInt8):Lit:=if h:k.length = 32 then Classical.choose (keyOf_path k h) else .bool false
theorem kl_spec {k:List UInt8} (hk:k.length = 32):keyOf Tryz.prog 31 (.agg (brow k)) = some (kl k):=by
 unfold kl
 rw [dif_pos hk]
 exact Classical.choose_spec (keyOf_path k hk)
theorem brow_inj {a b:List UInt8} (h:brow a = brow b):a = b:=by
 have h2:a.map bv = b.map bv:=by have:=congrArg Array.toList h; simpa [brow] using this
 refine List.map_inj_right (fun x y e => ?_) |>.1 h2
 simp only [bv,Value.int.injEq,true_and] at e
 exact UInt8.toNat_inj.1 (by omega)
theorem kl_inj {a b:List UInt8} (ha:a.length = 32) (hb:b.length = 32) (h:kl a = kl b):a = b:=by
 have:=lawP.inj (kl_spec ha) (by rw [h]; exact kl_spec hb)
 injection this with this
 exact brow_inj this
theorem kl_key {k:List UInt8} (hk:k.length = 32):WideAt.IsKeyLit (kl k):=lawP.key (kl_spec hk)
theorem zeroOfBool (w:World):(zeroValue 4).run Tryz.prog w = .ok (.bool false) w:=by kernel_rfl
def SetAt (w:World) (b n:Nat) (S:List (List UInt8)):Prop := ∃ D,w.ownsMap Tryz.prog 31 elemB b n D ∧ ∀ k:List UInt8,k.length = 32 → D.atKey (kl k) (.lit (.bool false)) = .lit (.bool (decide (k ∈ S)))
theorem SetAt.made (w:World):SetAt (w.alloc (.map #[] 0)) w.heap.size 0 []:=⟨_,World.ownsMap_made w _ _ _,fun k _ => by simp [DataW.atKey]⟩
theorem SetAt.keep {F:Nat → Prop} {w w':World} {b n:Nat} {S:List (List UInt8)} (h:SetAt w b n S) (hc:Ch F w w') (hb:¬ F b):SetAt w' b n S:=by
 obtain ⟨D,⟨es,clock,hg,r⟩,h2⟩:=h
 exact ⟨D,⟨es,clock,hc.row hg hb,r⟩,h2⟩
theorem SetAt.look {w:World} {b n:Nat} {S:List (List UInt8)} (h:SetAt w b n S) {k:List UInt8} (hk:k.length = 32) :
 (Instr.lookup 266 (.map (some b)) (.agg (brow k)) false).run Tryz.prog w = .ok (.bool (decide (k ∈ S))) w:=by
 obtain ⟨D,h1,h2⟩:=h
 obtain ⟨v,ps,hr,hv⟩:=h1.lookup lawP Tryz.underlying266 (zeroOfBool w) (plainElem_bool Tryz.underlying4 false) (kl_spec hk)
 rw [h2 k hk] at hv
 rw [hr]
 obtain ⟨x,rfl,hx⟩:=plainElem_bool_inv Tryz.underlying4 hv
 simp only [Prod.mk.injEq,DataW.lit.injEq,Lit.bool.injEq] at hx
 rw [hx.1]
theorem wp_setPut {w:World} {b n:Nat} {S:List (List UInt8)} (h:SetAt w b n S) (hn:n < maxLen) {ops:Array Oper} {rest:List Oper} {o:Oper} {a:Act} {Q:Exit → Act → World → Prop}
 (hg:o.guard = none) (m x v:Operand) (hop:o.op = Op.mapUpdate 266 m x v) (hm:a.eval m = .map (some b)) (k:List UInt8) (hk:k.length = 32) (hx:a.eval x = .agg (brow k)) (hv:a.eval v = .bool true)
 (hK:∀ w',SetAt w' b (n + 1) (k :: S) → Ch (fun k => k = b) w w' → wpList Tryz.prog ops Q rest (a.put o.dst undef) w'):wpList Tryz.prog ops Q (o :: rest) a w:=by
 obtain ⟨D,h1,h2⟩:=h
 refine wpList_mapUpdate_own w hg m x v _ hop 31 4 lawP Tryz.underlying266 elemB b n D hm h1 hn _ _ (kl k) hx hv (kl_spec hk) (.lit (.bool true)) [] (plainElem_bool Tryz.underlying4 true) ?_
 intro w' h3 h4
 refine hK w' ⟨_,h3,fun z hz => ?_⟩ ((Ch.refl _ w).grown h4 (fun k hk => .inl (by cases hk; rfl)))
 by_cases e:z = k
 · subst e
   rw [Maps.atKey_put_same h1.isMap (kl_key hk)]
   simp
 rw [Maps.atKey_put_other (fun he => e (kl_inj hz hk he)),h2 z hz]
 simp [e]
end Go.Proofs.YtmeglndnkdgkoaaGreat.Store

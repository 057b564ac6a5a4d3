/- Laws of the layers below. -/
import Derived.Test.YtmeglndnkdgkoaaGreatQe35
import Derived.RangeFuncFrom
import Derived.RangeFuncNested
import Derived.RangeFuncBound
import Derived.RangeFuncCalls
import Derived.RangeFuncLeaves
import Derived.OwnWalkIn
import Derived.TacticsInMore
import Derived.LoopNIn
import Derived.LoopIn
import Derived.Stop.RegionWithIn
import Derived.OrdersIn
import Derived.RangeFuncKeeps
import Derived.Shelf.Abstract
import Derived.Shelf.SlSortCmp.WholeK
import Derived.Shelf.SlSortCmp.NoneTotal
import Derived.DeepKeys4
import Derived.WalkArith
set_option maxHeartbeats 3200000
set_option maxRecDepth 100000
set_option linter.unusedVariables false
namespace Go.Proofs.YtmeglndnkdgkoaaGreat.Store
open Go.RowKit Go.Proofs.YtmeglndnkdgkoaaGreat.ShaW Go.Proofs.YtmeglndnkdgkoaaGreat.Path Go.Proofs.YtmeglndnkdgkoaaGreat.Law9
def Small (W:World) (ao:Option Addr) (len:Nat):Prop := ∀ i,i < len → ∃ (g off:Nat) (x:Act9),ao = some ⟨g,off,none⟩ ∧ x.Good W ∧ PartAt W g (off + i * 35) x.cells ∧ x.val.length ≤ 2000
section
variable {w0 w w' : World} {c s b n i : Nat} {σ : SlabSt Nd} {root : Int} {L : Ents} {A : List (Int × Ents)} {G : Nat → Prop}
def LargeRet (w w':World) (room:Int) (ao:Option Addr) (len:Nat) (e:Ending):Prop := ∃ B,e = .returned (.bool B) ∧ w = w' ∧ (B = false → 1 ≤ room ∧ room ≤ 5000 ∧ len ≤ 16 ∧ Small w ao len)
theorem Large_ok (room:Int) {ao:Option Addr} {len:Nat} (cap:Nat) (ha:ActsAt w ao len) :
 Calls Tryz.prog 19 #[.int .i64 room,.slice ao len cap] w fun e w' => LargeRet w w' room ao len e:=by
 by_cases h1:room < 1
 · clear ha
   have b1:decide (room < 1) = true:=decide_eq_true h1
   go_enter Tryz.func19,Tryz.ntmps19
   go_wp2
   go_ret
   exact ⟨true,rfl,rfl,fun h => (by cases h)⟩
 have b1:decide (room < 1) = false:=decide_eq_false h1
 by_cases h2:5000 < room
 · clear ha
   have b2:decide (5000 < room) = true:=decide_eq_true h2
   go_enter Tryz.func19,Tryz.ntmps19
   go_wp2
   go_ret
   exact ⟨true,rfl,rfl,fun h => (by cases h)⟩
 have b2:decide (5000 < room) = false:=decide_eq_false h2
 by_cases h3:(16:Int) < (len:Int)
 · clear ha
   have b3:decide ((16:Int) < (len:Int)) = true:=decide_eq_true h3
   go_enter Tryz.func19,Tryz.ntmps19
   go_wp2
   go_ret
   exact ⟨true,rfl,rfl,fun h => (by cases h)⟩
 have b3:decide ((16:Int) < (len:Int)) = false:=decide_eq_false h3
 have HA:=(hIq ha (show 1 ≤ room ∧ room ≤ 5000 ∧ len ≤ 16 by omega))
 have hl16:len ≤ 16:=by omega
 clear ha
 go_enter Tryz.func19,Tryz.ntmps19
 go_wp2
 go_loopg [5] len (fun g s5 wr => ∃ k:Nat,k ≤ len ∧ g = len - k ∧ s5 = .int .i64 k ∧ wr = w ∧ Small w ao k)
 case atStart => exact ⟨0,Nat.zero_le _,rfl,rfl,rfl,fun i hi => absurd hi (Nat.not_lt_zero i)⟩
 obtain ⟨k,hk,rfl,rfl,rfl,hsm⟩:=hrel
 have HSM:=Lib.hid hsm
 clear hsm
 by_cases hkl:k < len
 · obtain ⟨g,off,x,rfl,hx,hp⟩:=HA.out.1 k hkl
   have cv:=Law9.PartAt.cellAt hp (Act9.at_val hx.key)
   have HX:=(hIq hx hp)
   obtain ⟨vo,vc,hvv,_⟩:=hx.val.form
   rw [hvv] at cv
   obtain ⟨vl,hvl⟩:∃ vl,vl = x.val.length:=⟨_,rfl⟩
   rw [← hvl] at cv
   have HVL:=Lib.hid hvl
   have hki:(k:Int) < (len:Int):=by omega
   clear hx hp hvv hvl
   by_cases hb:2000 < vl
   · have hbi:(2000:Int) < (vl:Int):=by omega
     go_wp2
     go_ret
     exact ⟨true,rfl,rfl,fun h => (by cases h)⟩
   have hbi:¬ (2000:Int) < (vl:Int):=by omega
   go_wp2
   go_roundg (len - (k + 1))
   case measure => omega
   refine ⟨k + 1,by omega,rfl,by go_num,rfl,fun i hi => ?_⟩
   by_cases e:i = k
   · subst e
     exact ⟨g,off,x,rfl,HX.out.1,HX.out.2,by rw [← HVL.out]; omega⟩
   exact HSM.out i (by omega)
 obtain rfl:k = len:=by omega
 have hki:¬ (k:Int) < (k:Int):=by omega
 go_wp2
 go_ret
 exact ⟨false,rfl,rfl,fun _ => ⟨HA.out.2.1,HA.out.2.2.1,HA.out.2.2.2,HSM.out⟩⟩
def PlayRet (w w':World) (n len:Nat) (e:Ending):Prop := ∃ (c s b:Nat) (σ:SlabSt Nd) (root:Int) (L:Ents) (A:List (Int × Ents)),
 e = .returned (.tuple #[.pointer (some ⟨c,0,none⟩),.bool true]) ∧ ScAt w w' c s b σ σ root (firsts A) (fun k => k < w.heap.size) ∧ Sce σ root L A n len
theorem Play_ok (n:Nat) (h1:1 ≤ n) (h2:n ≤ 65536) {ao:Option Addr} {len:Nat} (cap:Nat) (hs:Small w ao len) (hl:len ≤ 16) :
 Calls Tryz.prog 20 #[.int .i64 (n:Int),.slice ao len cap] w fun e w' => PlayRet w w' n len e:=by
 unfold PlayRet
 have hn:=New9_ok n h1 h2 w
 unfold NewRet at hn
 have HN:=Lib.hid hn
 have HS:=(hIq hs (Sce.new (n:=n) h1 h2))
 clear hn hs h1 h2
 go_enter Tryz.func20,Tryz.ntmps20
 go_wp2_with fail
 refine HN.out.mono ?_; rintro e w1 ⟨c,s,b,rfl,S1⟩
 have H1:=Lib.hid S1
 clear S1
 go_wp2
 go_loopg [7,8] len (fun g s7 s8 wr => ∃ (k:Nat) (σ:SlabSt Nd) (root:Int) (L:Ents) (A:List (Int × Ents)),k ≤ len ∧ g = len - k ∧ s7 = .bool true ∧ s8 = .int .i64 k ∧ ScAt w wr c s b σ σ root (firsts A) (fun k => k < w.heap.size) ∧ Sce σ root L A n k)
 case atStart => exact ⟨0,_,_,_,[],Nat.zero_le _,rfl,rfl,rfl,H1.out,HS.out.2⟩
 obtain ⟨k,σ,root,L,A,hk,rfl,rfl,rfl,hS,hP⟩:=hrel
 have HK:=(hIq hS hP)
 by_cases hkl:k < len
 · obtain ⟨g,off,x,rfl,hx,hp,hv⟩:=HS.out.1 k hkl
   obtain ⟨cur,t,fr,hr,hfit,hext⟩:=hp.keep hS.world id
   have hxs:=Act9.size hx.key
   rw [hxs] at hfit hext
   have hdo:=Do_ok hS hP (by omega) x hx hv
   unfold DoRet at hdo
   obtain ⟨C,hC⟩:∃ C,C = x.cells:=⟨_,rfl⟩
   rw [← hC] at hext hdo hxs
   have HD:=Lib.hid hdo
   have HR:=(hIq hr (aIq hfit hext))
   have hki:decide ((k:Int) < (len:Int)) = true:=decide_eq_true (by omega)
   clear hr hfit hext hdo hC hx hp hxs hS hP hv
   go_wp2_with (first
    | fail
    | ((with_reducible show zOq (.load 47 _)); refine wpList_load_part rfl 47 _ rfl g (off + k * 35) rfl HR.out.1 Tryz.underlying47 rfl sizeAct9 HR.out.2.1 C HR.out.2.2 ?_))
   refine HD.out.mono ?_; rintro e w3 ⟨rfl,σ',root',L',A',S3,P3⟩
   have H3:=(hIq S3 P3)
   clear S3 P3
   go_wp2
   go_roundg (len - (k + 1))
   case measure => omega
   exact ⟨k + 1,σ',root',L',A',by omega,rfl,rfl,by go_num,H3.out.1,H3.out.2⟩
 obtain rfl:k = len:=by omega
 have hki:decide ((k:Int) < (k:Int)) = false:=decide_eq_false (by omega)
 clear hS hP
 go_wp2
 go_ret2
 exact ⟨c,s,b,σ,root,L,A,rfl,HK.out.1,HK.out.2⟩
end
end Go.Proofs.YtmeglndnkdgkoaaGreat.Store
namespace Go.Proofs.YtmeglndnkdgkoaaGreat.Store
open Go.RowKit Go.Proofs.YtmeglndnkdgkoaaGreat.ShaW Go.Proofs.YtmeglndnkdgkoaaGreat.Path
def L2:Ents:=upd (upd [] (keyL 0) []) (keyL 128) []
structure TwoS (σ:SlabSt Nd) (r:Int):Prop where
 db:Db σ r L2
 sole:Sole σ r
 live:Store.live σ = 3
 span:σ.slots.length ≤ 516
 ne:r ≠ 0

end Go.Proofs.YtmeglndnkdgkoaaGreat.Store
namespace Go.Proofs.YtmeglndnkdgkoaaGreat.Law12
open Go.RowKit Go.Proofs.YtmeglndnkdgkoaaGreat.ShaW Go.Proofs.YtmeglndnkdgkoaaGreat.Path Go.Proofs.YtmeglndnkdgkoaaGreat.Store Go.Proofs.YtmeglndnkdgkoaaGreat.Law9
structure At2 (w0 w:World) (s:Nat) (r:Int):Prop where
 ex:∃ σ F,At w s F σ ∧ TwoS σ r

end Go.Proofs.YtmeglndnkdgkoaaGreat.Law12
namespace Go.Proofs.YtmeglndnkdgkoaaGreat.Store
open Go.RowKit Go.Proofs.YtmeglndnkdgkoaaGreat.ShaW Go.Proofs.YtmeglndnkdgkoaaGreat.Path Go.Proofs.YtmeglndnkdgkoaaGreat.Law9
section
variable {w : World}
def RowI (w:World) (ao:Option Addr) (n cap:Nat) (l:List Int):Prop:=w.ownsRow 0 3 1 (.slice ao n cap) n (intL l) ∧ l.length = n
end
end Go.Proofs.YtmeglndnkdgkoaaGreat.Store
namespace Go.Proofs.YtmeglndnkdgkoaaGreat
open Go.RowKit
def SeqY {α:Type} (F:Fence) (n:Nat) (P:Program) (g:Nat) (lb:Array Value) (encs:α → Array Value) (Y:List α → α → World → Prop) (Kp:World → World → Prop) (S Sp:List α → Prop) (N:Nat) (w:World):Prop :=
 ∀ (l:Nat) (J Jx:List α → World → Prop) (W:World),Below w.heap.size w W → AbidesFrom W.heap.size J → AbidesFrom W.heap.size Jx →
  (∀ pre x W1,J pre W1 → Y pre x W1 → pre.length < N → YieldAt F (n - 1) P l (encs x) W1 fun e W' =>
   (e = .returned (.bool true) ∧ J (pre ++ [x]) W' ∧ Kp W1 W') ∨ (e = .returned (.bool false) ∧ Jx (pre ++ [x]) W')) →
  J [] W → CallsIn F n P g (#[.func (.yield l) #[] #[]] ++ lb) W fun e W' => (∃ v,e = .returned v) ∧ ((∃ xs,S xs ∧ J xs W') ∨ (∃ pre,Sp pre ∧ Jx pre W'))
variable {F : Fence} {n : Nat} {P : Program}
end Go.Proofs.YtmeglndnkdgkoaaGreat
namespace Go.Proofs.YtmeglndnkdgkoaaGreat.Store
open Go.RowKit Go.Sort Go.Proofs.YtmeglndnkdgkoaaGreat.ShaW Go.Proofs.YtmeglndnkdgkoaaGreat.Path Go.Proofs.YtmeglndnkdgkoaaGreat.Law9
def Yv (n0:Nat) (out:List Pr) (pre:List Pr) (x:Pr) (W:World):Prop :=
 ∃ y,out[pre.length]? = some y ∧ x.ent = y.ent ∧ x.key.length = 32 ∧ x.val.length ≤ 1024 ∧ BytesRow W n0 x.vv x.val
end Go.Proofs.YtmeglndnkdgkoaaGreat.Store
namespace Go.Proofs.YtmeglndnkdgkoaaGreat
open Go.RowKit
section
variable {F : Fence} {n : Nat} {P : Program} {ops : Array Oper} {Q : Exit → Act → World → Prop} {md : Region.Mode} {S : World → Prop}
def LooksIn (P:Program) (ops:Array Oper) (S:World → Prop) (o:Oper) (v:Value) (a:Act):Prop:=YieldsIf P ops S o v a ∧ ∀ w,o.about P w a.eval = none
def wpAllIn (F:Fence) (n:Nat) (P:Program) (md:Region.Mode) (ops:Array Oper) (Q:Exit → Act → World → Prop) (S:World → Prop):Nat → Array Bool → Act → World → Prop
 | 0,listed,a,w => Region.ready md ops listed = [] ∧ Q .normal a w
 | f + 1,listed,a,w => Region.ready md ops listed ≠ [] ∧ ∀ i ∈ Region.ready md ops listed,wpOpIn F n P ops Q i (fun a' w' => S w' ∧ wpAllIn F n P md ops Q S f (listed.setIfInBounds i true) a' w') a w
def noDefer (ops:Array Oper):Bool:=ops.all fun o => match o.op with | .defer _ => false | _ => true
def wpPlanIn (F:Fence) (n:Nat) (P:Program) (l:List Oper) (Q:Exit → Act → World → Prop) (S:World → Prop):List (Nat × Bool) → Act → World → Prop
 | [],a,w => Q .normal a w
 | (i,false) :: r,a,w => ∃ o v,l[i]? = some o ∧ LooksIn P l.toArray S o v a ∧ wpPlanIn F n P l Q S r (a.put o.dst v) w
 | (i,true) :: r,a,w => wpOpIn F n P l.toArray Q i (fun a' w' => S w' ∧ wpPlanIn F n P l Q S r a' w') a w
def planBI (md:Region.Mode) (ops:Array Oper):List (Nat × Bool) → Array Bool → Bool
 | [],listed => decide (Region.ready md ops listed = [])
 | (i,false) :: r,listed => (Region.ready md ops listed).contains i && Region.free md ops listed i && planBI md ops r (listed.setIfInBounds i true)
 | (i,true) :: r,listed => decide (Region.ready md ops listed = [i]) && planBI md ops r (listed.setIfInBounds i true)
def regionBI (md:Region.Mode) (ops:Array Oper) (p:List (Nat × Bool)):Bool:=Region.noSelect ops && noDefer ops && decide (p.length = ops.size) && planBI md ops p (Array.replicate ops.size false)
end
end Go.Proofs.YtmeglndnkdgkoaaGreat
namespace Go.Proofs.YtmeglndnkdgkoaaGreat.Store
open Go.RowKit Go.Sort Go.Proofs.YtmeglndnkdgkoaaGreat.ShaW Go.Proofs.YtmeglndnkdgkoaaGreat.Path Go.Proofs.YtmeglndnkdgkoaaGreat.Law9
section
variable {w : World} {s : Nat} {F : Nat → Prop} {σ : SlabSt Nd} {root : Int} {t : Tr}
def SeqIs (base:Nat) (w:World) (e:Ents) (q:Value):Prop := ∃ (b:Nat) (v:Value) (out:List Pr),q = .func (.func 175) #[] #[.pointer (some ⟨b,0,none⟩)] ∧ base ≤ b ∧ w.heap[b]? = some (.cells #[v] 63 (0,0)) ∧ Told base w v out ∧ out.map Pr.ent = e ∧ v.ownBlock ≠ some b ∧ ∀ x ∈ out,x.vv.ownBlock ≠ some b
end
end Go.Proofs.YtmeglndnkdgkoaaGreat.Store
namespace Go.Proofs.YtmeglndnkdgkoaaGreat.Store
open Go.RowKit Go.Shelf Go.Sort Go.Proofs.YtmeglndnkdgkoaaGreat.ShaW Go.Proofs.YtmeglndnkdgkoaaGreat.Path Go.Proofs.YtmeglndnkdgkoaaGreat.Law9
attribute [local go_sem] Oper.semAt_some
structure GoI (w:World) (wv:Value) (stop:Int) (m:Nat) (W:World):Prop where
 adds:Adds w W
 want:W.heap[w.heap.size]? = some (.cells #[wv] 63 (0,0))
 stop:W.heap[w.heap.size + 1]? = some (.cells #[.int .i64 stop] 3 (0,0))
 ans:W.heap[w.heap.size + 2]? = some (.cells #[.bool false] 4 (0,0))
 cnt:W.heap[w.heap.size + 3]? = some (.cells #[.int .i64 (m:Nat)] 3 (0,0))
def GoX (w:World) (c:Code) (W:World):Prop:=c = .ret ∧ Adds w W ∧ W.heap[w.heap.size + 2]? = some (.cells #[.bool true] 4 (0,0))
def goFrame (w:World) (q wv:Value) (stop:Int) (p:Nat) (k:Array Value) (v:Value):Array Value :=
 #[q,wv,.int .i64 stop,undef,.pointer (some ⟨w.heap.size,0,none⟩),.pointer (some ⟨w.heap.size + 1,0,none⟩),.pointer (some ⟨w.heap.size + 1 + 1,0,none⟩),.pointer (some ⟨w.heap.size + 1 + 1 + 1,0,none⟩),.pointer (some ⟨p,0,none⟩),v,q,.bool false,q,.agg k,v,
  undef,undef,undef,undef,undef,undef,undef,undef,undef,undef,undef,undef,undef,undef,undef,undef,undef,undef,undef,undef,undef,undef,undef,undef,undef,undef,undef,undef,undef,undef,undef,undef,undef,undef]
structure GoB (w:World) (q wv:Value) (stop:Int) (out:List Pr) (pre:List Pr) (x:Pr) (a:Act) (p:Nat) (W:World):Prop where
 act:a = { tmps:=goFrame w q wv stop p (brow x.key) x.vv,defers := [] }
 inv:GoI w wv stop pre.length W
 yv:Yv w.heap.size out pre x W
 box:W.heap[p]? = some (.cells (brow x.key) 31 (0,0))
 far:w.heap.size + 4 ≤ p
end Go.Proofs.YtmeglndnkdgkoaaGreat.Store
namespace Go.Proofs.YtmeglndnkdgkoaaGreat
open Go.Shelf
def sortPairs_ren:Go.Shelf.Ren:=⟨fun | 6 => 214 | 15 => 206 | 14 => 237 | 28 => 230 | 29 => 231 | 20 => 249 | 21 => 250 | 22 => 251 | 23 => 252 | 24 => 253 | 25 => 254 | 26 => 255 | 27 => 256 | 46 => 262 | 47 => 240 | 48 => 241 | 49 => 263 | 50 => 264 | 57 => 265 | n => n,fun | 22 => 63 | 24 => 159 | 25 => 268 | 3 => 3 | 39 => 260 | 0 => 0 | 53 => 282 | 55 => 284 | 4 => 4 | 46 => 274 | 45 => 273 | 50 => 279 | 5 => 5 | 9 => 9 | 66 => 295 | 70 => 299 | 76 => 311 | 77 => 154 | n => n,fun | n => n⟩
end Go.Proofs.YtmeglndnkdgkoaaGreat
namespace Go.Proofs.YtmeglndnkdgkoaaGreat.Law9
open Go.RowKit Go.Sort Go.Proofs.YtmeglndnkdgkoaaGreat.ShaW Go.Proofs.YtmeglndnkdgkoaaGreat.Path Go.Proofs.YtmeglndnkdgkoaaGreat.Store
structure PrK where
 p:Pr
 len:p.key.length = 32
 one:p.vv.oneCell' = true
instance:Inhabited PrK:=⟨⟨⟨List.replicate 32 0,.slice none 0 0,[]⟩,rfl,rfl⟩⟩
def encP (x:PrK):List Value:=x.p.cells.toList
def cmpP (x y:PrK):Int:=Lib.compareBytes x.p.key y.p.key
end Go.Proofs.YtmeglndnkdgkoaaGreat.Law9
namespace Go.Proofs.YtmeglndnkdgkoaaGreat.Store
open Go.RowKit Go.Proofs.YtmeglndnkdgkoaaGreat.Path Go.Maps
theorem keyTypeP:Tryz.prog.keyType 31 = true:=by kernel_rfl
theorem cellsP:Tryz.prog.cellsOf 31 = 32:=by kernel_rfl
theorem cellsU8:Tryz.prog.cellsOf 5 = 1:=by kernel_rfl
theorem mapM_of {α β:Type} {f:α → Option β} {g:α → β}:∀ (l:List α),(∀ x ∈ l,f x = some (g x)) → l.mapM f = some (l.map g)
 | [],_ => rfl
 | x :: l,h => by
  rw [List.mapM_cons,h x (by simp),mapM_of l (fun y hy => h y (by simp [hy]))]
  rfl
theorem keyOf_path (k:List UInt8) (hk:k.length = 32):∃ l,keyOf Tryz.prog 31 (.agg (brow k)) = some l:=by
 have hsz:(brow k).size = 32:=by simp [brow,hk]
 have hf:Value.formed Tryz.prog 31 (.agg (brow k)) = true:=by
  unfold Value.formed
  simp only [Tryz.underlying31,cellsP,hsz]
  rfl
 have hl:∀ n,Tryz.prog.keyLits (n + 2) 31 (brow k).toList = some (((List.range 32).map fun i => [Lit.int .u8 ((k.getD i 0).toNat:Int)]).flatten):=fun n => by
  unfold Program.keyLits
  simp only [Tryz.underlying31]
  rw [if_pos (by rw [cellsP,Array.length_toList,hsz]),mapM_of (g:=fun i => [Lit.int .u8 ((k.getD i 0).toNat:Int)])]
  · rfl
  intro i hi
  have hi:i < 32:=List.mem_range.1 hi
  have hg:((brow k).toList.drop (i * Tryz.prog.cellsOf 5)).take (Tryz.prog.cellsOf 5) = [bv (k.getD i 0)]:=by
   rw [cellsU8,Nat.mul_one]
   have h1:i < (brow k).toList.length:=by rw [Array.length_toList,hsz]; exact hi
   rw [List.drop_eq_getElem_cons h1]
   have:=brow_get (l:=k) (i:=i) (by omega)
   rw [Array.getElem?_eq_getElem (by rw [hsz]; exact hi)] at this
   injection this with this
   simp [this]
  rw [hg]
  unfold Program.keyLits
  simp only [Tryz.underlying5,bv]
  have:=(k.getD i 0).toNat_lt
  rw [if_pos ⟨trivial,WalkArith.wf_u8 ⟨by omega,by omega⟩⟩]
 unfold keyOf
 simp only [Tryz.underlying31,keyTypeP,hf]
 obtain ⟨m,hm⟩:∃ m,Tryz.prog.types.size + 1 = m + 2:=⟨Tryz.prog.types.size - 1,by have:1 ≤ Tryz.prog.types.size:=of_decide_eq_true (by kernel_rfl); omega⟩
 rw [hm]
 have e:=hl m
 show ∃ l,Option.map _ (Tryz.prog.keyLits (m + 2) 31 (brow k).toList) = some l
 rw [e]
 exact ⟨_,rfl⟩
noncomputable abbrev elemB:Value → Option (DataW Value × List MemPlace):=plainElem Tryz.prog 4
noncomputable def kl (k:List UInt8):Lit:=if h:k.length = 32 then Classical.choose (keyOf_path k h) else .bool false
def SetAt (w:World) (b n:Nat) (S:List (List UInt8)):Prop := ∃ D,w.ownsMap Tryz.prog 31 elemB b n D ∧ ∀ k:List UInt8,k.length = 32 → D.atKey (kl k) (.lit (.bool false)) = .lit (.bool (decide (k ∈ S)))
end Go.Proofs.YtmeglndnkdgkoaaGreat.Store
namespace Go.Proofs.YtmeglndnkdgkoaaGreat.Law9
open Go.RowKit Go.Sort Go.Proofs.YtmeglndnkdgkoaaGreat.ShaW Go.Proofs.YtmeglndnkdgkoaaGreat.Path Go.Proofs.YtmeglndnkdgkoaaGreat.Store
def advP (a:Option Addr) (cap i:Nat):Option Addr:=if cap = i then a else a.map (·.add (i * 33))
def zeroPr:Pr:=⟨List.replicate 32 0,.slice none 0 0,[]⟩
def FineP (l:List Pr):Prop:=l.length ≤ 4096 ∧ (∀ x ∈ l,x.val.length ≤ 1024) ∧ (l.map (·.key)).Nodup
def seen (l:List Pr) (k:Nat):List (List UInt8):=((l.take k).map (·.key)).reverse
theorem plan_gload_part {P:Program} {S:World → Prop} {Q:Exit → Act → World → Prop} {l:List Oper} {n i:Nat} {r:List (Nat × Bool)} {a:Act} {w:World} {o:Oper} (ho:l[i]? = some o) (hw:Region.wanted o (yielded l.toArray a.tmps) = true) (ty:TypeId) (x:Operand) (hop:o.op = .load ty x) (g off k:Nat) (hx:a.eval x = .pointer (some ⟨g,off,none⟩))
 {t:TypeId} {cur:Array Value} {fr:Nat × Nat} {d:TypeDesc} (hg:∀ w0,S w0 → w0.heap[g]? = some (.cells cur t fr)) (hu:P.underlying ty = some d) (hd:d.isRow = true) (hi:(P.info? ty).map (·.size) = some k) (hfit:off + k ≤ cur.size) (cs:Array Value) (hv:cur.extract off (off + k) = cs)
 (h:wpPlan P l Q S n r (a.put o.dst (.agg cs)) w):wpPlan P l Q S n ((i,false) :: r) a w :=
 plan_look ho hw (fun w0 hS => by
  unfold execOp
  simp only [hop,hx,Instr.loadAt,Instr.sureAddr,Sem.run_bind,Sem.run_pure,Result.andThen_ok,run_load_part w0 (hg w0 hS) hu hd hi hfit,hv]) h
end Go.Proofs.YtmeglndnkdgkoaaGreat.Law9
namespace Go.Proofs.YtmeglndnkdgkoaaGreat.Store
open Go.RowKit Go.Sort Go.Proofs.YtmeglndnkdgkoaaGreat.ShaW Go.Proofs.YtmeglndnkdgkoaaGreat.Path Go.Proofs.YtmeglndnkdgkoaaGreat.Law9
abbrev BelG (n0:Nat) (G:Nat → Prop) (A B:World):Prop:=Ch (fun k => n0 ≤ k ∨ G k) A B
end Go.Proofs.YtmeglndnkdgkoaaGreat.Store
namespace Go.Proofs.YtmeglndnkdgkoaaGreat.Store
open Go.RowKit Go.Proofs.YtmeglndnkdgkoaaGreat.ShaW Go.Proofs.YtmeglndnkdgkoaaGreat.Path
section
variable {σ : SlabSt Nd} {R : List (Int × Ents)} {l l' : List Int} {k k' : Wk} {x h : Int}
structure Says (σ:SlabSt Nd) (l:List Int):Prop where
 good:Good σ
 held:∀ k,k ≠ 0 → Store.held σ k = (l.count k:Nat)
theorem count_getC {h:Int} {y:Nd × Nat} (hy:σ.get? h = some y):σ.count h = y.2:=by unfold SlabSt.count; rw [hy]; rfl
end
end Go.Proofs.YtmeglndnkdgkoaaGreat.Store
namespace Go.Proofs.YtmeglndnkdgkoaaGreat.Store
open Go.RowKit Go.Shelf Go.Sort Go.Proofs.YtmeglndnkdgkoaaGreat.ShaW Go.Proofs.YtmeglndnkdgkoaaGreat.Path Go.Proofs.YtmeglndnkdgkoaaGreat.Law9
attribute [local go_sem] Oper.semAt_some
structure SdI (w3:World) (B7:Nat) (pre:List Pr) (v:Value) (W:World):Prop where
 ch:Ch (fun k => k = B7) w3 W
 r7:W.heap[B7]? = some (.cells #[v] 63 (0,0))
 row:RowP W w3.heap.size v pre
 vals:∀ x ∈ pre,x.key.length = 32 ∧ BytesRow W w3.heap.size x.vv x.val

end Go.Proofs.YtmeglndnkdgkoaaGreat.Store
namespace Go.Proofs.YtmeglndnkdgkoaaGreat.Store
open Go.RowKit Go.Proofs.YtmeglndnkdgkoaaGreat.ShaW Go.Proofs.YtmeglndnkdgkoaaGreat.Path Go.Proofs.YtmeglndnkdgkoaaGreat.Law9
def rootsOf (root:Int) (A:List (Int × Ents)):List Int:=firsts A ++ (if root = 0 then [] else [root])
structure RootsOk (σ:SlabSt Nd) (R:List Int):Prop where
 says:Says σ R
 chk:∀ l:List Int,l.Sublist R → Store.chk σ l = 0
 each:∀ r ∈ R,∃ t,Rep (sk σ) r 0 t ∧ rootErr σ r = 0 ∧ t.leaves ≤ 4096

end Go.Proofs.YtmeglndnkdgkoaaGreat.Store
namespace Go.Proofs.YtmeglndnkdgkoaaGreat.Path
open Go.RowKit Go.Proofs.YtmeglndnkdgkoaaGreat.Store
def clr (x:UInt8) (j:Nat):UInt8:=UInt8.ofNat (x.toNat - bbit x j * 2 ^ (7 - j))
theorem clr_bits:∀ (x:Fin 256) (j i:Fin 8),(x.val - x.val / 2 ^ (7 - j.val) % 2 * 2 ^ (7 - j.val)) / 2 ^ (7 - i.val) % 2 = if i.val = j.val then 0 else x.val / 2 ^ (7 - i.val) % 2:=by decide +kernel
theorem clr_nat (x:UInt8) (j:Nat):(clr x j).toNat = x.toNat - bbit x j * 2 ^ (7 - j):=by
 unfold clr
 rw [UInt8.toNat_ofNat']
 exact Nat.mod_eq_of_lt (Nat.lt_of_le_of_lt (Nat.sub_le _ _) x.toNat_lt)
theorem clr_bit (x:UInt8) {i j:Nat} (hi:i < 8) (hj:j < 8):bbit (clr x j) i = if i = j then 0 else bbit x i:=by
 have:=clr_bits ⟨x.toNat,x.toNat_lt⟩ ⟨j,hj⟩ ⟨i,hi⟩
 simp only at this
 unfold bbit
 rw [clr_nat]
 exact this
def setz (k:List UInt8) (d:Nat):List UInt8:=k.set (d / 8) (clr (k.getD (d / 8) 0) (d % 8))
theorem setz_length (k:List UInt8) (d:Nat):(setz k d).length = k.length:=List.length_set
theorem setz_bit {k:List UInt8} (hk:k.length = 32) {d j:Nat} (hd:d < 256) (hj:j < 256):kbit (setz k d) j = if j = d then 0 else kbit k j:=by
 unfold setz kbit
 have e8:d % 8 < 8:=Nat.mod_lt _ (by decide)
 have e9:j % 8 < 8:=Nat.mod_lt _ (by decide)
 by_cases h:j / 8 = d / 8
 · rw [h]
   have hg:(k.set (d / 8) (clr (k.getD (d / 8) 0) (d % 8))).getD (d / 8) 0 = clr (k.getD (d / 8) 0) (d % 8):=by
    rw [List.getD_eq_getElem?_getD,List.getElem?_set_self (by omega)]; rfl
   rw [hg,clr_bit _ e9 e8]
   by_cases e:j = d
   · subst e; simp
   rw [if_neg e,if_neg (by omega)]
 have hg:(k.set (d / 8) (clr (k.getD (d / 8) 0) (d % 8))).getD (j / 8) 0 = k.getD (j / 8) 0:=by
  rw [List.getD_eq_getElem?_getD,List.getElem?_set_ne (Ne.symm h), ← List.getD_eq_getElem?_getD]
 rw [hg,if_neg (fun e => h (by rw [e]))]
theorem kept_more:∀ (x:Fin 256) (k i:Fin 8),0 < k.val → k.val ≤ i.val → x.val / 2 ^ (8 - k.val) * 2 ^ (8 - k.val) / 2 ^ (7 - i.val) % 2 = 0:=by decide +kernel
theorem first_zero {k:List UInt8} (hk:k.length = 32) {d j:Nat} (hj:j < 256) (h:d ≤ j):kbit (Path.first k d) j = 0:=by
 unfold kbit
 obtain ⟨x,hx⟩:∃ x,k[j / 8]? = some x:=⟨_,List.getElem?_eq_getElem (by omega)⟩
 have h1:=firstFrom_get (d:Int) 0 k (j / 8) x hx
 have h2:(Path.first k (d:Int))[j / 8]? = some (kept x ((d:Int) - 8 * (0 + (j / 8:Nat)))):=h1
 simp only [List.getD_eq_getElem?_getD,h2,Option.getD_some]
 have e9:j % 8 < 8:=Nat.mod_lt _ (by decide)
 unfold kept
 by_cases c0:(d:Int) - 8 * (0 + (j / 8:Nat)) ≤ 0
 · rw [if_pos c0]; unfold bbit; simp
 rw [if_neg c0,if_pos (by omega)]
 obtain ⟨m,hm⟩:∃ m:Nat,(d:Int) - 8 * (0 + (j / 8:Nat)) = (m:Int):=⟨((d:Int) - 8 * (0 + (j / 8:Nat))).toNat,by omega⟩
 rw [hm,Int.toNat_natCast]
 have:=kept_more ⟨x.toNat,x.toNat_lt⟩ ⟨m,by omega⟩ ⟨j % 8,e9⟩ (by simp only; omega) (by simp only; omega)
 simp only at this
 unfold bbit
 rw [UInt8.toNat_ofNat',Nat.mod_eq_of_lt (Nat.lt_of_le_of_lt (Nat.div_mul_le_self _ _) x.toNat_lt)]
 exact this
def fillz (k:List UInt8) (d:Nat):Nat → List UInt8
 | 0 => k
 | n + 1 => setz (fillz k d n) (d + n)
theorem fillz_length (k:List UInt8) (d:Nat):∀ n,(fillz k d n).length = k.length
 | 0 => rfl
 | n + 1 => by rw [fillz,setz_length,fillz_length k d n]
theorem fillz_bit {k:List UInt8} (hk:k.length = 32) {d j:Nat} (hj:j < 256):∀ n,d + n ≤ 256 → kbit (fillz k d n) j = if d ≤ j ∧ j < d + n then 0 else kbit k j
 | 0,_ => by rw [fillz,if_neg (by omega)]
 | n + 1,h => by
  rw [fillz,setz_bit (by rw [fillz_length]; exact hk) (by omega) hj,fillz_bit hk hj n (by omega)]
  by_cases e:j = d + n
  · rw [if_pos e,if_pos (by omega)]
  rw [if_neg e]
  by_cases c:d ≤ j ∧ j < d + n
  · rw [if_pos c,if_pos (by omega)]
  rw [if_neg c,if_neg (by omega)]
theorem fillz_first {k:List UInt8} (hk:k.length = 32) {d:Nat} (hd:d ≤ 256):fillz k d (256 - d) = Path.first k d:=by
 refine pre_all (by rw [fillz_length]; exact hk) (by rw [first_length]; exact hk) (fun j hj => ?_)
 rw [fillz_bit hk hj _ (by omega)]
 by_cases c:d ≤ j
 · rw [if_pos ⟨c,by omega⟩,first_zero hk hj c]
 rw [if_neg (fun h => c h.1),first_bit k d j (by omega)]
end Go.Proofs.YtmeglndnkdgkoaaGreat.Path

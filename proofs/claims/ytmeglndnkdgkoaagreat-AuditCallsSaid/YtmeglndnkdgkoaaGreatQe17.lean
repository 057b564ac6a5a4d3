/- Laws of the layers below. -/
import Derived.Test.YtmeglndnkdgkoaaGreatQe16
import Derived.Shelf.Sort.Plain
import Derived.Shelf.Slices.In.SortNone2
import Derived.Test.YtmeglndnkdgkoaaGreatChecked
set_option maxHeartbeats 3200000
set_option maxRecDepth 100000
set_option linter.unusedVariables false
namespace Go.Proofs.YtmeglndnkdgkoaaGreat.Store
open Go.RowKit Go.Proofs.YtmeglndnkdgkoaaGreat.ShaW Go.Proofs.YtmeglndnkdgkoaaGreat.Path
section
variable {σ σ2 : SlabSt Nd} {root : Int} {L : Ents} {key bs : List UInt8} {s : Nat}
theorem hold_db (D:Db σ root L) (h0:root ≠ 0) (ht:total σ < 1073741824) :
 (holdS σ root).1 = 0 ∧ Db (holdS σ root).2 root L ∧ (∀ k,sk (holdS σ root).2 k = sk σ k) ∧ (∀ k,held (holdS σ root).2 k = if k = root then held σ root + 1 else held σ k) ∧
  live (holdS σ root).2 = live σ ∧ total (holdS σ root).2 = total σ + 1 ∧ (holdS σ root).2.room = σ.room:=by
 have hh:1 ≤ held σ root:=by
  rcases D.held with h | h
  · exact absurd h h0
  exact h
 obtain ⟨x,hx,_⟩:=held_there hh
 obtain ⟨h1,h2,h3,h4,h5,h6⟩:=holdS_spec D.good.sound hx (by have:=count_le hx; omega)
 refine ⟨h1,⟨D.good.hold root,?_,D.nodup,D.len,.inr (by rw [h3,if_pos rfl]; omega)⟩,h2,h3,h4,h5,h6⟩
 rw [show sk (holdS σ root).2 = sk σ from funext h2]
 exact D.rep
end
section
variable {w0 w : World} {s : Nat} {σ σ' σ0 σ1 : SlabSt Nd} {F G : Nat → Prop} {root r now : Int} {t : Tr} {L L' : Ents} {key bs : List UInt8} {n : Nat} {R R' : List (Int × Ents)}
structure Step (σ σ':SlabSt Nd) (root r:Int):Prop where
 good:Good σ'
 agree:∀ k x,sk σ k = some x → sk σ' k = none ∨ sk σ' k = some x
 held:∀ k,k ≠ 0 → Store.held σ' k = Store.held σ k - (if k = root then 1 else 0) + (if k = r then 1 else 0)
theorem Step.refl (h:Good σ) (root:Int):Step σ σ root root:=⟨h,fun _ _ hx => .inr hx,fun k _ => by split <;> omega⟩
theorem Step.keep (h:Step σ σ' root r) (hz:sk σ 0 = none) {k:Int} {d:Nat} {t:Tr} (hr:Rep (sk σ) k d t) (h0:k = 0 ∨ ∃ y,sk σ' k = some y):Rep (sk σ') k d t:=by
 have back:∀ k n,sk σ k = some n → (k = 0 ∨ ∃ m,sk σ' k = some m) → sk σ' k = some n:=fun k n hn hk => by
  rcases hk with rfl | ⟨m,hm⟩
  · rw [hz] at hn; cases hn
  rcases h.agree k n hn with e | e
  · rw [e] at hm; cases hm
  exact e
 have hc:=Sound.closed h.good.sound
 induction hr with
 | nil => exact .nil
 | leaf hn hk => exact .leaf (back _ _ hn h0) hk
 | node hn hk hd _ _ ihl ihr =>
  have:=back _ _ hn h0
  exact .node this hk hd (ihl (hc _ _ this).1) (ihr (hc _ _ this).2)
theorem held_there' {k:Int} (h:1 ≤ Store.held σ k):∃ x,sk σ k = some x:=by
 obtain ⟨x,hx,_⟩:=held_there h
 exact ⟨_,sk_some hx⟩
theorem held_gone {k:Int} (h:sk σ k = none) (hs:Sound σ []):Store.held σ k = 0:=by
 have hn:=held_nonneg hs k
 by_cases e:1 ≤ Store.held σ k
 · obtain ⟨x,hx⟩:=held_there' e
   rw [h] at hx; cases hx
 omega
theorem dropS_held' (hs:Sound σ []) {h:Int} (hh:1 ≤ Store.held σ h) (k:Int):Store.held (dropS σ h).2.2 k = Store.held σ k - (if k = h then 1 else 0):=by
 obtain ⟨_,_,_,g3,g4,_,_,_⟩:=dropS_spec hs hh
 have hd:=dropS_held hs hh k
 have hn:=held_nonneg hs k
 by_cases e:k = h
 · subst e
   rw [if_pos rfl] at hd ⊢
   by_cases h2:2 ≤ Store.held σ k
   · exact (g4 h2).2
   rcases hd with e | e <;> omega
 rw [if_neg e] at hd ⊢
 by_cases h1:1 ≤ Store.held σ k
 · rw [(g3 k e h1).2]; omega
 rcases hd with e | e <;> omega
theorem dropS_step (G:Good σ) {h:Int} (hh:1 ≤ Store.held σ h):Step σ (dropS σ h).2.2 h 0:=by
 obtain ⟨_,_,g2,_⟩:=dropS_spec G.sound hh
 refine ⟨G.drop h,fun k x hx => ?_,fun k hk => by rw [dropS_held' G.sound hh,if_neg hk]; omega⟩
 rcases g2 k with e | e
 · exact .inl e
 exact .inr (e.trans hx)
theorem PutMid.held' (h:PutMid σ0 σ key now 0 t n) (G:Good σ0) (k:Int):Store.held σ k = Store.held σ0 k + (if k = now then 1 else 0):=by
 have hn:=held_nonneg h.good.sound k
 by_cases e:k = now
 · subst e
   rw [if_pos rfl,h.one,held_gone h.fresh G.sound]
   rfl
 rw [if_neg e]
 cases hx:sk σ0 k with
 | some x => rw [(h.old k x hx).2]; omega
 | none =>
  rw [held_gone hx G.sound]
  by_cases h1:1 ≤ Store.held σ k
  · rcases h.only k h1 with h2 | h2
    · exact absurd h2 e
    rw [held_gone hx G.sound] at h2; omega
  omega
theorem PutMid.step (h:PutMid σ0 σ key now 0 t n) (G:Good σ0) (hh:root = 0 ∨ 1 ≤ Store.held σ0 root):Step σ0 (if root ≠ 0 then (dropS σ root).2.2 else σ) root now:=by
 have hh':=h.held' G
 by_cases h0:root = 0
 · rw [if_neg (by simpa using h0)]
   exact ⟨h.good,fun k x hx => .inr (h.old k x hx).1,fun k hk => by rw [hh',h0,if_neg hk]; omega⟩
 rw [if_pos h0]
 have hr:=hh.resolve_left h0
 have hr1:1 ≤ Store.held σ root:=by rw [hh']; split <;> omega
 have hd:=dropS_step h.good hr1
 refine ⟨hd.good,fun k x hx => hd.agree k x (h.old k x hx).1,fun k hk => ?_⟩
 rw [hd.held k hk,hh',if_neg hk]
 omega
def roots (R:List (Int × Ents)) (k:Int):Nat:=R.countP (fun p => p.1 == k)
theorem roots_cons (p:Int × Ents) (R:List (Int × Ents)) (k:Int):roots (p :: R) k = roots R k + (if k = p.1 then 1 else 0):=by
 unfold roots
 rw [List.countP_cons]
 by_cases e:k = p.1
 · simp [e]
 have:¬ p.1 = k:=fun h => e h.symm
 simp [e,this]
theorem roots_pos {p:Int × Ents} (h:p ∈ R):1 ≤ roots R p.1:=List.countP_pos_iff.2 ⟨p,h,by simp⟩
structure Roots (σ:SlabSt Nd) (R:List (Int × Ents)):Prop where
 good:Good σ
 held:∀ k,k ≠ 0 → Store.held σ k = (roots R k:Nat)
 rep:∀ p ∈ R,Rep (sk σ) p.1 0 (tree 256 p.2)
 nodup:∀ p ∈ R,(keysOf p.2).Nodup
 len:∀ p ∈ R,∀ q ∈ p.2,q.1.length = 32
theorem Roots.new (n:Nat) (h1:1 ≤ n) (h2:n ≤ 65536):Roots ⟨n,[],[]⟩ []:=by
 refine ⟨Good.new n h1 h2,fun k hk => ?_,fun p hp => (by cases hp),fun p hp => (by cases hp),fun p hp => (by cases hp)⟩
 rw [held_gone (by unfold sk SlabSt.get?; split <;> simp [Option.filter]) (Good.new n h1 h2).sound]
 rfl
theorem Roots.perm (h:Roots σ R) (hp:R.Perm R'):Roots σ R' :=
 ⟨h.good,fun k hk => by rw [h.held k hk]; unfold roots; rw [hp.countP_eq],fun p hm => h.rep p (hp.mem_iff.2 hm),fun p hm => h.nodup p (hp.mem_iff.2 hm),fun p hm => h.len p (hp.mem_iff.2 hm)⟩
theorem Roots.there (h:Roots σ R) {p:Int × Ents} (hp:p ∈ R):p.1 = 0 ∨ 1 ≤ Store.held σ p.1:=by
 by_cases e:p.1 = 0
 · exact .inl e
 right
 rw [h.held _ e]
 have:=roots_pos hp
 omega
theorem Roots.db (h:Roots σ R) {p:Int × Ents} (hp:p ∈ R):Db σ p.1 p.2:=⟨h.good,h.rep p hp,h.nodup p hp,h.len p hp,h.there hp⟩
theorem Roots.step (h:Roots σ ((root,L) :: R)) (hs:Step σ σ' root r) (hr:Rep (sk σ') r 0 (tree 256 L')) (hn:(keysOf L').Nodup) (hl:∀ q ∈ L',q.1.length = 32):Roots σ' ((r,L') :: R):=by
 have hz:=h.good.fit.zero
 have hh:∀ k,k ≠ 0 → Store.held σ' k = (roots ((r,L') :: R) k:Nat):=fun k hk => by
  rw [hs.held k hk,h.held k hk,roots_cons,roots_cons]
  simp only
  (repeat' split) <;> omega
 refine ⟨hs.good,hh,fun p hp => ?_,fun p hp => ?_,fun p hp => ?_⟩
 · rcases List.mem_cons.1 hp with rfl | hp'
   · exact hr
   refine hs.keep hz (h.rep p (List.mem_cons_of_mem _ hp')) ?_
   by_cases e:p.1 = 0
   · exact .inl e
   right
   refine held_there' ?_
   rw [hh _ e]
   have:=roots_pos hp
   omega
 · rcases List.mem_cons.1 hp with rfl | hp
   · exact hn
   exact h.nodup p (List.mem_cons_of_mem _ hp)
 rcases List.mem_cons.1 hp with rfl | hp
 · exact hl
 exact h.len p (List.mem_cons_of_mem _ hp)
theorem Roots.less (h:Roots σ ((0,L) :: R)):Roots σ R :=
 ⟨h.good,fun k hk => by rw [h.held k hk,roots_cons,if_neg hk]; rfl,fun p hp => h.rep p (List.mem_cons_of_mem _ hp),fun p hp => h.nodup p (List.mem_cons_of_mem _ hp),fun p hp => h.len p (List.mem_cons_of_mem _ hp)⟩
theorem Roots.zero (h:Roots σ R):Roots σ ((0,[]) :: R):=by
 refine ⟨h.good,fun k hk => by rw [h.held k hk,roots_cons,if_neg hk]; rfl,fun p hp => ?_,fun p hp => ?_,fun p hp => ?_⟩
 · rcases List.mem_cons.1 hp with rfl | hp
   · exact .nil
   exact h.rep p hp
 · rcases List.mem_cons.1 hp with rfl | hp
   · exact List.nodup_nil
   exact h.nodup p hp
 rcases List.mem_cons.1 hp with rfl | hp
 · exact fun q hq => by cases hq
 exact h.len p hp
theorem Roots.hold (h:Roots σ ((root,L) :: R)) (h0:root ≠ 0) (ht:Store.total σ < 1073741824):(holdS σ root).1 = 0 ∧ Roots (holdS σ root).2 ((root,L) :: (root,L) :: R) ∧ Store.live (holdS σ root).2 = Store.live σ ∧ Store.total (holdS σ root).2 = Store.total σ + 1 ∧ (holdS σ root).2.room = σ.room:=by
 obtain ⟨h1,h2,h3,h4,h5,h6,h7⟩:=hold_db (h.db (List.mem_cons_self ..)) h0 ht
 have e:sk (holdS σ root).2 = sk σ:=funext h3
 refine ⟨h1,⟨h2.good,fun k hk => ?_,fun p hp => ?_,fun p hp => ?_,fun p hp => ?_⟩,h5,h6,h7⟩
 · rw [h4,roots_cons]
   by_cases e:k = root
   · subst e; rw [if_pos rfl,if_pos rfl,h.held _ hk]; omega
   rw [if_neg e,if_neg e,h.held k hk]; omega
 · rw [e]
   rcases List.mem_cons.1 hp with rfl | hp
   · exact h.rep _ (List.mem_cons_self ..)
   exact h.rep p hp
 · rcases List.mem_cons.1 hp with rfl | hp
   · exact h.nodup _ (List.mem_cons_self ..)
   exact h.nodup p hp
 rcases List.mem_cons.1 hp with rfl | hp
 · exact h.len _ (List.mem_cons_self ..)
 exact h.len p hp
theorem Roots.drop (h:Roots σ ((root,L) :: R)) (h0:root ≠ 0):(dropS σ root).2.1 = 0 ∧ Roots (dropS σ root).2.2 R ∧ Store.live (dropS σ root).2.2 ≤ Store.live σ ∧ Store.total (dropS σ root).2.2 ≤ Store.total σ ∧ (dropS σ root).2.2.room = σ.room:=by
 have hh:=(h.there (List.mem_cons_self ..)).resolve_left h0
 obtain ⟨g0,_,_,_,_,g5,g6,g7⟩:=dropS_spec h.good.sound hh
 exact ⟨g0,(h.step (L' := []) (dropS_step h.good hh) .nil List.nodup_nil (fun q hq => by cases hq)).less,g5,g6,g7⟩
theorem upd_fine (hn:(keysOf L).Nodup) (hl:∀ q ∈ L,q.1.length = 32) (hk:key.length = 32):(keysOf (upd L key bs)).Nodup ∧ ∀ p ∈ upd L key bs,p.1.length = 32:=by
 refine ⟨List.nodup_cons.2 ⟨fun hm => ?_,hn.sublist (keys_filter L _)⟩,fun p hp => ?_⟩
 · obtain ⟨p,hp,e⟩:=List.mem_map.1 hm
   have:=(List.mem_filter.1 hp).2
   simp [e] at this
 rcases List.mem_cons.1 hp with e | hp
 · rw [e]; exact hk
 exact hl p (List.mem_filter.1 hp).1
structure WroteR (σ σ':SlabSt Nd) (root r:Int) (n m:Nat):Prop where
 step:Step σ σ' root r
 live:Store.live σ' ≤ Store.live σ + n
 total:Store.total σ' ≤ Store.total σ + m
 room:σ'.room = σ.room
end
end Go.Proofs.YtmeglndnkdgkoaaGreat.Store
namespace Go.Proofs.YtmeglndnkdgkoaaGreat
open Go.Shelf
def sortInts_ren:Go.Shelf.Ren:=⟨fun | 125 => 206 | 128 => 230 | 129 => 231 | 189 => 188 | 191 => 126 | 215 => 244 | 216 => 227 | 257 => 205 | 294 => 221 | 295 => 222 | 296 => 223 | 297 => 224 | 298 => 225 | 299 => 226 | 300 => 228 | 301 => 229 | 328 => 239 | 329 => 240 | 330 => 241 | 331 => 242 | 332 => 243 | 343 => 260 | n => n,fun | 0 => 0 | 3 => 3 | 4 => 4 | 5 => 5 | 9 => 9 | 28 => 43 | 46 => 260 | 51 => 282 | 53 => 284 | 131 => 279 | 182 => 273 | 183 => 274 | 218 => 295 | 222 => 299 | 228 => 311 | 229 => 154 | n => n,fun | n => n⟩
theorem sortInts:Go.Proofs.Lays.n191 Tryz.prog sortInts_ren := {
 mixed:=by kernel_rfl
 f125:=Tryz.func206.trans (congrArg some (by kernel_rfl))
 f128:=Tryz.func230.trans (congrArg some (by kernel_rfl))
 f129:=Tryz.func231.trans (congrArg some (by kernel_rfl))
 f189:=Tryz.func188.trans (congrArg some (by kernel_rfl))
 f191:=Tryz.func126.trans (congrArg some (by kernel_rfl))
 f215:=Tryz.func244.trans (congrArg some (by kernel_rfl))
 f216:=Tryz.func227.trans (congrArg some (by kernel_rfl))
 f257:=Tryz.func205.trans (congrArg some (by kernel_rfl))
 f294:=Tryz.func221.trans (congrArg some (by kernel_rfl))
 f295:=Tryz.func222.trans (congrArg some (by kernel_rfl))
 f296:=Tryz.func223.trans (congrArg some (by kernel_rfl))
 f297:=Tryz.func224.trans (congrArg some (by kernel_rfl))
 f298:=Tryz.func225.trans (congrArg some (by kernel_rfl))
 f299:=Tryz.func226.trans (congrArg some (by kernel_rfl))
 f300:=Tryz.func228.trans (congrArg some (by kernel_rfl))
 f301:=Tryz.func229.trans (congrArg some (by kernel_rfl))
 f328:=Tryz.func239.trans (congrArg some (by kernel_rfl))
 f329:=Tryz.func240.trans (congrArg some (by kernel_rfl))
 f330:=Tryz.func241.trans (congrArg some (by kernel_rfl))
 f331:=Tryz.func242.trans (congrArg some (by kernel_rfl))
 f332:=Tryz.func243.trans (congrArg some (by kernel_rfl))
 f343:=Tryz.func260.trans (congrArg some (by kernel_rfl))
 t0:=Tryz.underlying0
 a0:=Tryz.isAgg0
 z0:=Tryz.sizeOf0
 v0:=Tryz.zeroValue0
 t3:=Tryz.underlying3
 a3:=Tryz.isAgg3
 z3:=Tryz.sizeOf3
 v3:=Tryz.zeroValue3
 t4:=Tryz.underlying4
 a4:=Tryz.isAgg4
 z4:=Tryz.sizeOf4
 v4:=Tryz.zeroValue4
 t5:=Tryz.underlying5
 a5:=Tryz.isAgg5
 z5:=Tryz.sizeOf5
 v5:=Tryz.zeroValue5
 t9:=Tryz.underlying9
 a9:=Tryz.isAgg9
 z9:=Tryz.sizeOf9
 v9:=Tryz.zeroValue9
 t28:=Tryz.underlying43
 a28:=Tryz.isAgg43
 z28:=Tryz.sizeOf43
 v28:=Tryz.zeroValue43
 t46:=Tryz.underlying260
 a46:=Tryz.isAgg260
 z46:=Tryz.sizeOf260
 v46:=Tryz.zeroValue260
 t51:=Tryz.underlying282
 a51:=Tryz.isAgg282
 z51:=Tryz.sizeOf282
 v51:=Tryz.zeroValue282
 t53:=Tryz.underlying284
 a53:=Tryz.isAgg284
 z53:=Tryz.sizeOf284
 v53:=Tryz.zeroValue284
 t131:=Tryz.underlying279
 a131:=Tryz.isAgg279
 z131:=Tryz.sizeOf279
 v131:=Tryz.zeroValue279
 t182:=Tryz.underlying273
 a182:=Tryz.isAgg273
 z182:=Tryz.sizeOf273
 v182:=Tryz.zeroValue273
 t183:=Tryz.underlying274
 a183:=Tryz.isAgg274
 z183:=Tryz.sizeOf274
 v183:=Tryz.zeroValue274
 t218:=Tryz.underlying295
 a218:=Tryz.isAgg295
 z218:=Tryz.sizeOf295
 v218:=Tryz.zeroValue295
 t222:=Tryz.underlying299
 a222:=Tryz.isAgg299
 z222:=Tryz.sizeOf299
 v222:=Tryz.zeroValue299
 t228:=Tryz.underlying311
 a228:=Tryz.isAgg311
 z228:=Tryz.sizeOf311
 v228:=Tryz.zeroValue311
 t229:=Tryz.underlying154
 a229:=Tryz.isAgg154
 z229:=Tryz.sizeOf154
 v229:=Tryz.zeroValue154 }
end Go.Proofs.YtmeglndnkdgkoaaGreat

/- Proved contracts and plain laws of the layers below, in one text. -/
import Derived.Test.YtmeglndnkdgkoaaGreatQd38
set_option maxHeartbeats 3200000
set_option maxRecDepth 100000
set_option linter.unusedVariables false
namespace Go.Proofs.YtmeglndnkdgkoaaGreat
open Go Go.RowKit
section
variable {P : Program} {Q : Exit → Act → World → Prop} {md : Region.Mode} {S : World → Prop} {q : List (Nat × Bool)}
def wpPlanG (P:Program) (l:List Oper) (Q:Exit → Act → World → Prop) (f:Nat) (S:World → Prop) (n:Nat) (q:List (Nat × Bool)):List (Nat × Bool) → Act → World → Prop
 | [],a,w => wpOp P l.toArray Q f (fun a' w' => S w' ∧ wpPlan P l Q S n q a' w') a w
 | (i,false) :: r,a,w => ∃ o v,l[i]? = some o ∧ YieldsIf P l.toArray S o v a ∧ wpPlanG P l Q f S n q r (a.put o.dst v) w
 | (i,true) :: r,a,w => wpOp P l.toArray Q i (fun a' w' => S w' ∧ wpPlanG P l Q f S n q r a' w') a w ∧ wpOp P l.toArray Q f (fun a' w' => S w' ∧ wpPlan P l Q S n ((i,true) :: (r ++ q)) a' w') a w
def planGB (md:Region.Mode) (ops:Array Oper) (f n:Nat) (q:List (Nat × Bool)):List (Nat × Bool) → Array Bool → Bool
 | [],listed => decide (f < n) && decide (Region.ready md ops listed = [f]) && planB md ops n q (listed.setIfInBounds f true)
 | (i,false) :: r,listed => decide (i < n) && (Region.ready md ops listed).contains i && Region.free md ops listed i && planGB md ops f n q r (listed.setIfInBounds i true)
 | (i,true) :: r,listed => decide (i < n) && decide (f < n) && (decide (Region.ready md ops listed = [i,f]) || decide (Region.ready md ops listed = [f,i])) && planGB md ops f n q r (listed.setIfInBounds i true) && planB md ops n ((i,true) :: (r ++ q)) (listed.setIfInBounds f true)
def regionGB (md:Region.Mode) (ops:Array Oper) (f n:Nat) (q p:List (Nat × Bool)):Bool :=
 Region.noSelect ops && decide (q.length + 1 + p.length = n) && decide (n ≤ ops.size) && tailB md ops n && planGB md ops f n q p (Array.replicate ops.size false)
theorem wpHeadG_of_plan {l:List Oper} {f n:Nat} (hsel:Region.noSelect l.toArray = true) (ht:tailB md l.toArray n = true) (hQ:∀ c a a' w,Q (.panic c) a' w → Q (.panic c) a w) :
 ∀ (p:List (Nat × Bool)) (listed:Array Bool) (a:Act) (w:World),planGB md l.toArray f n q p listed = true → HeadInv md l.toArray n listed → S w → wpPlanG P l Q f S n q p a w →
 wpHead P md l.toArray Q S n (fun listed a w => Region.seqB md l.toArray (l.toArray.size - n) n listed = true ∧ wpList P l.toArray Q (l.drop n) a w) (q.length + 1 + p.length) listed a w
 | [],listed,a,w,hB,inv,hS,h => by
  simp only [planGB,Bool.and_eq_true,decide_eq_true_eq] at hB
  obtain ⟨⟨hfn,hr⟩,hB'⟩:=hB
  refine ⟨by rw [hr]; simp,fun j hj => ?_⟩
  have hjf:j = f:=by rw [hr] at hj; simpa using hj
  subst hjf
  exact ⟨hfn,wpOp_mono (fun a' w' h' => ⟨h'.1,wpHead_of_plan hsel ht hQ q _ a' w' hB' (inv.set hj hfn) h'.1 h'.2⟩) h⟩
 | (i,false) :: r,listed,a,w,hB,inv,hS,h => by
  simp only [planGB,Bool.and_eq_true,decide_eq_true_eq] at hB
  obtain ⟨⟨⟨hin,hr⟩,hf⟩,hB'⟩:=hB
  obtain ⟨o,v,ho,hy,h'⟩:=h
  have hr':i ∈ Region.ready md l.toArray listed:=by simpa using hr
  have ho':l.toArray[i]? = some o:=by simpa using ho
  exact wpHead_first ho' (Region.noSelect_spec hsel) (fun c a w => hQ c _ _ w) ht hin (fun listed a w hL => seqB_ready hL.1) (q.length + 1 + r.length) listed a w inv (Region.free_spec ho' hf) hr' hy hS
   (wpHeadG_of_plan hsel ht hQ r _ _ w hB' (inv.set hr' hin) hS h')
 | (i,true) :: r,listed,a,w,hB,inv,hS,h => by
  simp only [planGB,Bool.and_eq_true,decide_eq_true_eq,Bool.or_eq_true] at hB
  obtain ⟨⟨⟨⟨hin,hfn⟩,hr⟩,hB1⟩,hB2⟩:=hB
  have hmem:∀ j,j ∈ Region.ready md l.toArray listed ↔ j = i ∨ j = f:=fun j => by
   rcases hr with hr | hr
   · rw [hr]; simp
   rw [hr]; simp [or_comm]
  refine ⟨fun h0 => ?_,fun j hj => ?_⟩
  · have:=(hmem i).2 (.inl rfl)
    rw [h0] at this
    cases this
  rcases (hmem j).1 hj with e | e
  · subst e
    exact ⟨hin,wpOp_mono (fun a' w' h' => ⟨h'.1,wpHeadG_of_plan hsel ht hQ r _ a' w' hB1 (inv.set hj hin) h'.1 h'.2⟩) h.1⟩
  subst e
  have hlen:q.length + 1 + r.length = ((i,true) :: (r ++ q)).length:=by simp; omega
  refine ⟨hfn,wpOp_mono (fun a' w' h' => ⟨h'.1,?_⟩) h.2⟩
  show wpHead P md l.toArray Q S n _ (q.length + 1 + r.length) _ _ _
  rw [hlen]
  exact wpHead_of_plan hsel ht hQ ((i,true) :: (r ++ q)) _ a' w' hB2 (inv.set hj hfn) h'.1 h'.2
theorem wp_region_planG {id:Nat} {a:Act} {w:World} {l:List Oper} (f:Nat) (S:World → Prop) (n:Nat) (p q:List (Nat × Bool)) (hm:P.follows .mixedOrders = true)
 (hB:regionGB .any l.toArray f n q p = true) (hS:S w.drew) (h:wpPlanG P l (NoPanic Q) f S n q p a w.drew):(Code.region id l.toArray true).wp P Q a w:=by
 refine wp_region_noPanic ?_
 have hQ:∀ c a a' w,NoPanic Q (.panic c) a' w → NoPanic Q (.panic c) a w:=fun _ _ _ _ h => h.elim
 simp only [regionGB,Bool.and_eq_true,decide_eq_true_eq] at hB
 obtain ⟨⟨⟨⟨hsel,hlen⟩,hn⟩,ht⟩,hp⟩:=hB
 have inv0:HeadInv .any l.toArray n (Array.replicate l.toArray.size false) :=
  ⟨by simp,fun j oj _ hl => (by rw [getD_replicate_false] at hl; cases hl),fun t _ ht => getD_in (by simpa using ht) (getD_replicate_false _ _)⟩
 have H:=wpHeadG_of_plan (md:=.any) hsel ht hQ p _ a _ hp inv0 hS h
 refine wp_region_any hm ?_
 have:=wpAny_of_wpHead (g:=l.toArray.size - n) (fun listed a' w' hL => by
  have hdl:(l.drop n).length = l.toArray.size - n:=by simp
  have:=wpAny_of_seq (md:=.any) (Q':=NoPanic Q) (l.drop n) n listed a' w' (fun j => by simp [List.getElem?_drop]) (by rw [hdl]; exact hL.1) hL.2
  rwa [hdl] at this) _ _ _ _ H
 rw [hlen,show n + (l.toArray.size - n) = l.toArray.size by omega] at this
 exact this
theorem planG_look {l:List Oper} {f n i:Nat} {r:List (Nat × Bool)} {a:Act} {w:World} {o:Oper} {v:Value} (ho:l[i]? = some o) (hw:Region.wanted o (yielded l.toArray a.tmps) = true)
 (hy:∀ w0,S w0 → (execOp a.eval o).run P w0 = .ok (.value v) w0) (h:wpPlanG P l Q f S n q r (a.put o.dst v) w):wpPlanG P l Q f S n q ((i,false) :: r) a w :=
 ⟨o,v,ho,.inl ⟨hw,hy⟩,h⟩
theorem planG_do {l:List Oper} {f n i:Nat} {r:List (Nat × Bool)} {a:Act} {w:World} {o of:Oper} (ho:l[i]? = some o) (hof:l[f]? = some of)
 (h:wpList P l.toArray (Exit.then (fun a' w' => S w' ∧ wpPlanG P l Q f S n q r a' w') Q) [o] a w) (h2:wpList P l.toArray (Exit.then (fun a' w' => S w' ∧ wpPlan P l Q S n ((i,true) :: (r ++ q)) a' w') Q) [of] a w):wpPlanG P l Q f S n q ((i,true) :: r) a w :=
 ⟨wpOp_of_list ho h,wpOp_of_list hof h2⟩
theorem planG_last {l:List Oper} {f n:Nat} {a:Act} {w:World} {of:Oper} (hof:l[f]? = some of)
 (h2:wpList P l.toArray (Exit.then (fun a' w' => S w' ∧ wpPlan P l Q S n q a' w') Q) [of] a w):wpPlanG P l Q f S n q [] a w:=wpOp_of_list hof h2
end
end Go.Proofs.YtmeglndnkdgkoaaGreat
namespace Go.Proofs.YtmeglndnkdgkoaaGreat.Store
open Go Go.RowKit Go.Proofs.YtmeglndnkdgkoaaGreat Go.Proofs.YtmeglndnkdgkoaaGreat.ShaW Go.Proofs.YtmeglndnkdgkoaaGreat.Path Go.Proofs.YtmeglndnkdgkoaaGreat.Law9
theorem planG_gload {P:Program} {S:World → Prop} {Q:Exit → Act → World → Prop} {l:List Oper} {f n i:Nat} {q r:List (Nat × Bool)} {a:Act} {w:World} {o:Oper} (ho:l[i]? = some o) (hw:Region.wanted o (yielded l.toArray a.tmps) = true) (ty:TypeId) (x:Operand) (hop:o.op = .load ty x) (g off k:Nat) (hx:a.eval x = .pointer (some ⟨g,off,none⟩))
 {t:TypeId} {cur:Array Value} {fr:Nat × Nat} {d:TypeDesc} (hg:∀ w0,S w0 → w0.heap[g]? = some (.cells cur t fr)) (hu:P.underlying ty = some d) (hd:d.isRow = true) (hi:(P.info? ty).map (·.size) = some k) (hfit:off + k ≤ cur.size) (cs:Array Value) (hv:cur.extract off (off + k) = cs)
 (h:wpPlanG P l Q f S n q r (a.put o.dst (.agg cs)) w):wpPlanG P l Q f S n q ((i,false) :: r) a w :=
 planG_look ho hw (fun w0 hS => by
  unfold execOp
  simp only [hop,hx,Instr.loadAt,Instr.sureAddr,Sem.run_bind,Sem.run_pure,Result.andThen_ok,run_load_part w0 (hg w0 hS) hu hd hi hfit,hv]) h
theorem rep_any {σ:SlabSt Nd} (G:Good σ) {n:Int} {s:Nd × Nat} (hs:σ.get? n = some s):∃ (d:Nat) (t:Tr),Rep (sk σ) n d t ∧ (s.1.kind = 2 → s.1.depth = (d:Int) ∧ d ≤ 255):=by
 by_cases h2:s.1.kind = 2
 · have hi:=G.fit.inner (sk_some hs) h2
   have h0:0 ≤ s.1.depth:=hi.d0
   have h1:s.1.depth ≤ 255:=hi.d1
   obtain ⟨d,hd⟩:∃ d:Nat,s.1.depth = (d:Int):=⟨s.1.depth.toNat,by omega⟩
   obtain ⟨t,ht⟩:=Rep.ex G.fit (256 - d) d n (by omega) (.inr ⟨_,sk_some hs,fun _ => hd⟩)
   exact ⟨d,t,ht,fun _ => ⟨hd,by omega⟩⟩
 obtain ⟨t,ht⟩:=Rep.ex G.fit 256 0 n rfl (.inr ⟨_,sk_some hs,fun e => absurd e h2⟩)
 exact ⟨0,t,ht,fun e => absurd e h2⟩
theorem key_first {σ:SlabSt Nd} (G:Good σ) {n:Int} {s:Nd × Nat} (hs:σ.get? n = some s) (h2:s.1.kind = 2) {d:Nat} {t:Tr} (hr:Rep (sk σ) n d t) (hd:s.1.depth = (d:Int)) (hd2:d ≤ 255) {e:List UInt8 × List UInt8} (he:e ∈ t.ents):Path.first e.1 d = s.1.key:=by
 obtain ⟨hl,hp,_⟩:=hr.near G.fit e he
 rw [ndF_some (sk_some hs)] at hp
 have hi:=G.fit.inner (sk_some hs) h2
 have hk:s.1.key = Path.first (if s.1.left = 0 then (ndF (sk σ) s.1.right).key else (ndF (sk σ) s.1.left).key) s.1.depth:=hi.key
 have hkl:s.1.key.length = 32:=hi.len
 rw [hd] at hk
 refine pre_all (by rw [first_length]; exact hl) hkl (fun j hj => ?_)
 by_cases c:j < d
 · rw [first_bit e.1 d j c]
   exact hp j c
 rw [first_zero hl hj (by omega),hk,first_zero (by rw [hk,first_length] at hkl; exact hkl) hj (by omega)]
section
variable {w w' : World} {b : Nat} {F : Nat → Prop} {ρ : Rs} {σ : SlabSt Nd}
theorem REntries_none (h:RAt w b F ρ) {n:Int} (hz0:ρ.sp n = Sp.zero) :
 Calls Tryz.prog 106 #[.pointer (some ⟨b,0,none⟩),.int .i64 n] w fun e w' => e = .returned (.slice none 0 0) ∧ Adds w w':=by
 have hg:=Rat_ok h n
 rw [hz0] at hg
 obtain ⟨Z,hZ⟩:∃ Z,Z = Sp.zero.cells:=⟨_,rfl⟩
 have hzs:=zeroSp
 rw [← hZ] at hg hzs
 have k0:Z[0]? = some (.int .u8 0):=by rw [hZ]; rfl
 have HZ:=(hIq hzs (by rw [hZ]; exact ⟨Sp.cells_size Sp.zero_ok,Sp.cells_one Sp.zero_ok⟩:Z.size = 39 ∧ ∀ v ∈ Z.toList,v.oneCell' = true))
 have HG:=Lib.hid hg
 have K0:=Lib.hid k0
 clear hg hz0 hZ hzs h k0
 go_enter Tryz.func106,Tryz.ntmps106
 go_wp2_with fail
 refine HG.out.mono ?_; rintro e w1 ⟨rfl,a1⟩
 have c0:=row_cell (row_setRow_same (heap_alloc_new w1 (.cells Z 198)) Z) K0.out
 have A1:=Lib.hid a1
 clear a1
 go_wp2_with (first
  | fail
  | ((with_reducible show zOq (.alloc 198)); refine wpList_alloc_is rfl 198 rfl (.agg Z) HZ.out.1 ?_; dsimp only [Value.cells]; try simp only [World.size_alloc])
  | ((with_reducible show zOq (.store 198 _ _)); refine wpList_store_part rfl 198 _ _ rfl w1.heap.size 0 Z rfl rfl (heap_alloc_new _ _) (by rw [sizeSp,HZ.out.2.1]) (by omega) HZ.out.2.2 Z (by rw [splice_all _ _ rfl]) ?_))
 go_ret
 exact ⟨rfl,(A1.out.alloc _).setRow (.inr A1.out.size) _⟩
theorem RSize_ok (h:RAt w b F ρ) (L:Lk σ ρ) (G:Good σ) (n:Int) :
 Calls Tryz.prog 149 #[.pointer (some ⟨b,0,none⟩),.int .i64 n] w fun e w' => e = .returned (.int .i64 (nd σ n).size) ∧ Adds w w':=by
 cases hs:σ.get? n with
 | none =>
  have HE:=Lib.hid (REntries_none h (L.none hs))
  rw [nd_none hs]
  clear h L G hs
  go_enter Tryz.func149,Tryz.ntmps149
  go_wp2_with fail
  refine HE.out.mono ?_; rintro e w1 ⟨rfl,a1⟩
  go_wp2
  go_ret
  exact ⟨rfl,a1⟩
 | some s =>
  obtain ⟨d,t,hr,_⟩:=rep_any G hs
  have hsz:=hr.size G.fit
  rw [ndF_sk] at hsz
  have hle:=ents_le G hr
  have hrm:σ.slots.length ≤ 65536:=Nat.le_trans G.sound.wf.len G.sound.wf.room.2
  rw [← t.ents_length] at hsz
  have HE:=Lib.hid (REntries_ok L G hr h)
  have hwr:wrap64 ((t.ents.length:Nat):Int) = (t.ents.length:Int):=by unfold wrap64; omega
  rw [hwr] at hsz
  have hsz':(nd σ n).size = (t.ents.length:Int):=hsz
  rw [hsz']
  clear h L G hs hr hle hrm hwr hsz hsz'
  go_enter Tryz.func149,Tryz.ntmps149
  go_wp2_with fail
  refine HE.out.mono ?_; rintro e w1 ⟨v,out,rfl,hp,he,hn,hx,a1⟩
  obtain ⟨ao,cap,rfl⟩:=owns_form hp
  have hl:out.length = t.ents.length:=by rw [← he,List.length_map]
  rw [hl]
  have A1:=Lib.hid a1
  clear hp he hn hx a1 hl
  go_wp2
  go_ret
  exact ⟨rfl,A1.out⟩
def KeyAt (w:World) (g:Nat) (cur Z:Array Value) (wz:World):Prop:=wz.heap[g]? = some (.cells cur 159 (0,0)) ∧ wz.heap[w.heap.size]? = some (.cells Z 31 (0,0)) ∧ Adds w wz
theorem KeyAt.adds {g:Nat} {cur Z:Array Value} {wz wy:World} (h:KeyAt w g cur Z wz) (a:Adds wz wy):KeyAt w g cur Z wy:=⟨a.row h.1 id,a.row h.2.1 id,h.2.2.trans a (fun _ => fEq)⟩
theorem KeyAt.drew {g:Nat} {cur Z:Array Value} {wz:World} (h:KeyAt w g cur Z wz):KeyAt w g cur Z wz.drew:=h.adds (Ch.refl _ _).drew
theorem RKey_inner (h:RAt w b F ρ) (L:Lk σ ρ) (G:Good σ) {n:Int} {s:Nd × Nat} (hs:σ.get? n = some s) (h2:s.1.kind = 2) :
 Calls Tryz.prog 153 #[.pointer (some ⟨b,0,none⟩),.int .i64 n] w fun e w' => e = .returned (.agg (brow s.1.key)) ∧ Adds w w':=by
 obtain ⟨d,t,hrep,hdd⟩:=rep_any G hs
 obtain ⟨hd,hd2⟩:=hdd h2
 have hkf:=fun e he => key_first G hs h2 hrep hd hd2 (e:=e) he
 have hne:=(Rep.many G.fit hrep).1 (G.fit.ne (sk_some hs))
 obtain ⟨m,x,rfl,_,_,hx,_,hsp,hkx,_,_,_,_,_,hdx,_,_⟩:=L.some G hs
 have hok:=(h.1.nums x (List.mem_of_getElem? hx)).1
 obtain ⟨Z,hZ⟩:∃ Z,Z = brow (List.replicate 32 0):=⟨_,rfl⟩
 have hzp:=zeroP
 rw [← hZ] at hzp
 have hZs:Z.size = 32:=by rw [hZ]; rfl
 obtain ⟨Z3,hZ3⟩:∃ Z,Z = brow (List.replicate 32 0):=⟨_,rfl⟩
 have hz3:=zeroB32
 rw [← hZ3] at hz3
 have HZ3:=(hIq hz3 (aIq (by rw [hZ3]; rfl:Z3.size = 32) trivial))
 have a0:Adds w (w.alloc (.cells Z 31)):=(Ch.refl _ w).alloc _
 have hE:=REntries_ok L G hrep (h.adds a0)
 have hg:=fun w1 (a:Adds w w1) => Rat_ok (h.adds a) ((m:Int) + 1)
 rw [hsp] at hg
 obtain ⟨N,hN⟩:∃ N,N = x.cells:=⟨_,rfl⟩
 have k0:N[0]? = some (.int .u8 2):=by rw [hN,Sp.at_kind,hkx,h2]; rfl
 have k1:N[1]? = some (.int .i64 (d:Int)):=by rw [hN,Sp.at_d,hdx h2,hd]
 rw [← hN] at hg
 have hfk:=fun w => run_field_one (P:=Tryz.prog) (w:=w) Tryz.underlying198 (i:=0) rfl (Tryz.isAgg121 w) k0
 obtain ⟨dp,hdp⟩:∃ dp:Int,dp = (d:Int):=⟨_,rfl⟩
 rw [← hdp] at k1
 have hfd:=fun w => run_field_one (P:=Tryz.prog) (w:=w) Tryz.underlying198 (i:=1) rfl (Tryz.isAgg3 w) k1
 have HE:=Lib.hid hE
 have HG:=Lib.hid hg
 have HZ:=(hIq hzp hZs)
 have HA0:=Lib.hid a0
 have HFD:=Lib.hid hfd
 obtain ⟨K2,hK2⟩:∃ K,K = brow s.1.key:=⟨_,rfl⟩
 have hkl:s.1.key.length = 32:=(G.fit.all _ _ (sk_some hs)).key
 have hK2s:K2.size = 32 ∧ ∀ v ∈ K2.toList,v.oneCell' = true:=by rw [hK2]; exact ⟨by rw [brow_size,hkl],brow_ones _⟩
 have HK2:=(hIq hK2 hK2s)
 rw [← hK2]
 have HKF:=(hIq hkf (aIq hne (aIq hd2 hdp)))
 clear hE hg hzp hZs a0 hN k0 k1 hrep h hZ hK2 hkl hK2s hkf hne hZ3 hz3 hfd hdd hd hd2 hdp hx hsp hkx hdx hok h2 hs L G
 go_enter Tryz.func153,Tryz.ntmps153
 go_wp2_with (first
  | fail
  | ((with_reducible show zOq (.alloc 31)); refine wpList_alloc_is rfl 31 rfl (.agg Z) HZ.out.1 ?_; dsimp only [Value.cells]; try simp only [World.size_alloc]))
 refine HE.out.mono ?_; rintro e w1 ⟨v,out,rfl,hp,he,hn,hx,a1⟩
 obtain ⟨p,l,rfl⟩:∃ p l,out = p :: l:=by
  cases out with
  | nil => have:=HKF.out.2.1; rw [← he] at this; simp at this
  | cons p l => exact ⟨p,l,rfl⟩
 have hpe:Path.first p.key d = s.1.key:=HKF.out.1 p.ent (by rw [← he]; exact List.mem_cons_self ..)
 have hpl:p.key.length = 32:=(hx p (List.mem_cons_self ..)).1
 obtain ⟨g,cap,cur,rfl,e2,e3,e4,e5,e6⟩:=owns_block hp (by simp)
 have hfi:=fun w1 => Filled_ok p.key hpl d (by have:=HKF.out.2.2.1; omega) w1
 obtain ⟨K,hK⟩:∃ K,K = brow p.key:=⟨_,rfl⟩
 rw [hpe, ← HK2.out.1, ← hK, ← HKF.out.2.2.2] at hfi
 have hcur:cur.extract 0 (0 + 32) = K:=by
  have h1:(cur.toList.take ((p :: l).length * 33)).take 32 = (flatP (p :: l)).take 32:=congrArg (List.take 32) e6
  have h2:(flatP (p :: l)).take 32 = p.key.map bv:=by
   show (p.cells.toList ++ flatP l).take 32 = _
   rw [Pr.list,List.append_assoc,List.take_append_of_le_length (by simp [hpl]),List.take_of_length_le (by simp [hpl])]
  rw [List.take_take,h2,Nat.min_eq_left (by simp; omega)] at h1
  apply Array.ext'
  rw [Array.toList_extract,hK]
  simpa [List.extract,brow] using h1
 obtain ⟨ln,hln⟩:∃ ln,ln = (p :: l).length:=⟨_,rfl⟩
 have hl9:0 < ln:=by rw [hln]; exact Nat.succ_pos _
 have hl0:((ln:Int) == 0) = false:=by simpa using (show ¬ (ln:Int) = 0 by omega)
 have hlp:(0:Int) < (ln:Int):=by omega
 rw [← hln] at e3 ⊢
 have hln1:1 ≤ ln:=by omega
 have KA:KeyAt w g cur Z w1:=⟨e2,a1.row (heap_alloc_new w (.cells Z 31)) id,HA0.out.trans a1 (fun _ => fEq)⟩
 have HKA:=Lib.hid KA
 have HCU:=(hIq (by omega:0 + 32 ≤ cur.size) hcur)
 have HFI:=Lib.hid hfi
 clear hp he hn hx a1 hpe hpl e2 e3 e4 e5 e6 hfi hK hcur hln KA hln1
 go_wp2_with fail
 refine (HG.out _ HKA.out.2.2).mono ?_; rintro e w4 ⟨rfl,a4⟩
 have H4:=Lib.hid (HKA.out.adds a4)
 clear a4
 go_upto_region 6 with fail
 try simp only [Act.put]
 go_cut [6,7] (fun s6 s7 wx => ∃ tb,s6 = .pointer (some ⟨tb,0,none⟩) ∧ wx.heap[tb]? = some (.cells K2 30 (0,0)) ∧ KeyAt w g cur Z wx)
 case first =>
  refine wp_region_planG 12 (KeyAt w g cur Z) 14 [(0,false),(1,false),(2,false),(3,false),(4,false),(5,false),(6,true),(7,false),(8,true),(9,false),(10,false),(11,false)] [(13,true)] (by kernel_rfl) (by kernel_rfl) ?_ ?_
  · exact H4.out.drew
  refine planG_look rfl rfl (fun w0 hS => (by clear hS; go_simp; try rfl)) ?_
  simp only [Act.put,nAq,nBq,nCq]
  iterate 2
   refine planG_look rfl rfl (fun w0 hS => (by clear hS; go_simp; try rfl)) ?_
   simp only [Act.put,nAq,nBq,nCq]
  refine planG_gload (cur:=cur) (t:=159) (fr:=(0,0)) rfl rfl 31 (.tmp 27) rfl g 0 32 rfl (fun w0 hS => hS.1) Tryz.underlying31 rfl sizeP HCU.out.1 K HCU.out.2 ?_
  simp only [Act.put,nAq,nBq,nCq]
  iterate 2
   refine planG_look rfl rfl (fun w0 hS => (by clear hS; go_simp; try rfl)) ?_
   simp only [Act.put,nAq,nBq,nCq]
  refine planG_do rfl rfl ?_ ?_
  · go_wp2_with fail
    refine (HG.out _ H4.out.drew.2.2).mono ?_; rintro e w5 ⟨rfl,a⟩
    have H5:=Lib.hid (KeyAt.adds H4.out.drew a)
    clear a
    dsimp only
    go_step
    refine wpList_nil ?_
    change _ ∧ _
    refine ⟨H5.out,?_⟩
    refine planG_look (v:=.int .i64 dp) rfl rfl (fun w0 hS => (by have q:=HFD.out w0; clear hS; go_simp; try rfl)) ?_
    simp only [Act.put,nAq,nBq,nCq]
    refine planG_do rfl rfl ?_ ?_
    · go_wp2_with fail
      refine (HFI.out _).mono ?_; rintro e w6 ⟨rfl,a⟩
      have H6:=Lib.hid (KeyAt.adds H5.out a)
      clear a
      dsimp only
      go_step
      refine wpList_nil ?_
      change _ ∧ _
      refine ⟨H6.out,?_⟩
      iterate 3
       refine planG_look rfl rfl (fun w0 hS => (by clear hS; go_simp; try rfl)) ?_
       simp only [Act.put,nAq,nBq,nCq]
      refine planG_last rfl ?_
      go_wp2_with (first
       | fail
       | ((with_reducible show zOq (.alloc 30)); refine wpList_alloc_is rfl 30 rfl (.agg Z3) HZ3.out.1 ?_; dsimp only [Value.cells]; try simp only [World.size_alloc]))
      refine ⟨H6.out.adds ((Ch.refl _ _).alloc _),?_⟩
      refine plan_do rfl ?_
      go_wp2_with (first
       | fail
       | ((with_reducible show zOq (.store 30 _ _)); refine wpList_store_part rfl 30 _ _ rfl w6.heap.size 0 K2 rfl rfl (heap_alloc_new _ _) (by rw [sizeB32,HK2.out.2.1]) (by rw [HK2.out.2.1,HZ3.out.2.1]; omega) HK2.out.2.2 K2 (by rw [splice_all _ _ (by rw [Array.length_toList,Array.length_toList,HK2.out.2.1,HZ3.out.2.1])]) ?_))
      refine ⟨(H6.out.adds (((Ch.refl _ _).alloc _).setRow (.inr (Nat.le_refl _)) _)),?_⟩
      refine plan_end ?_; simp only [List.drop_succ_cons,List.drop_zero]
      go_wp2
      refine NoPanic.normal ?_
      go_wp2
      go_meet
      exact ⟨w6.heap.size,rfl,row_setRow_same (heap_alloc_new _ _) _,(H6.out.adds (((Ch.refl _ _).alloc _).setRow (.inr (Nat.le_refl _)) _))⟩
    go_wp2_with (first
     | fail
     | ((with_reducible show zOq (.alloc 30)); refine wpList_alloc_is rfl 30 rfl (.agg Z3) HZ3.out.1 ?_; dsimp only [Value.cells]; try simp only [World.size_alloc]))
    refine ⟨H5.out.adds ((Ch.refl _ _).alloc _),?_⟩
    refine plan_do rfl ?_
    go_wp2_with fail
    refine (HFI.out _).mono ?_; rintro e w6 ⟨rfl,a⟩
    have H6:=(hIq (KeyAt.adds (H5.out.adds ((Ch.refl _ _).alloc (.cells Z3 30))) a) (aIq (a.row (heap_alloc_new w5 (.cells Z3 30)) id) (fun Z' => KeyAt.adds H5.out (((Ch.refl (fun _ => False) w5).alloc (.cells Z3 30)).trans a (fun _ => fEq) |>.setRow (.inr (Nat.le_refl _)) Z'))))
    clear a
    dsimp only
    go_step
    refine wpList_nil ?_
    change _ ∧ _
    refine ⟨H6.out.1,?_⟩
    iterate 3
     refine plan_look rfl rfl (fun w0 hS => (by clear hS; go_simp; try rfl)) ?_
     simp only [Act.put,nAq,nBq,nCq]
    refine plan_do rfl ?_
    go_wp2_with (first
     | fail
     | ((with_reducible show zOq (.store 30 _ _)); refine wpList_store_part rfl 30 _ _ rfl w5.heap.size 0 K2 rfl rfl H6.out.2.1 (by rw [sizeB32,HK2.out.2.1]) (by rw [HK2.out.2.1,HZ3.out.2.1]; omega) HK2.out.2.2 K2 (by rw [splice_all _ _ (by rw [Array.length_toList,Array.length_toList,HK2.out.2.1,HZ3.out.2.1])]) ?_))
    refine ⟨(H6.out.2.2 _),?_⟩
    refine plan_end ?_; simp only [List.drop_succ_cons,List.drop_zero]
    go_wp2
    refine NoPanic.normal ?_
    go_wp2
    go_meet
    exact ⟨w5.heap.size,rfl,row_setRow_same H6.out.2.1 _,(H6.out.2.2 _)⟩
  go_wp2_with (first
   | fail
   | ((with_reducible show zOq (.alloc 30)); refine wpList_alloc_is rfl 30 rfl (.agg Z3) HZ3.out.1 ?_; dsimp only [Value.cells]; try simp only [World.size_alloc]))
  refine ⟨H4.out.drew.adds ((Ch.refl _ _).alloc _),?_⟩
  refine plan_do rfl ?_
  go_wp2_with fail
  refine (HG.out _ (H4.out.drew.adds ((Ch.refl _ _).alloc (.cells Z3 30))).2.2).mono ?_; rintro e w5 ⟨rfl,a⟩
  have H5:=(hIq (KeyAt.adds (H4.out.drew.adds ((Ch.refl _ _).alloc (.cells Z3 30))) a) (aIq (a.row (heap_alloc_new w4.drew (.cells Z3 30)) id) (((Ch.refl (fun _ => False) w4.drew).alloc (.cells Z3 30)).trans a (fun _ => fEq))))
  clear a
  dsimp only
  go_step
  refine wpList_nil ?_
  change _ ∧ _
  refine ⟨H5.out.1,?_⟩
  refine plan_look (v:=.int .i64 dp) rfl rfl (fun w0 hS => (by have q:=HFD.out w0; clear hS; go_simp; try rfl)) ?_
  simp only [Act.put,nAq,nBq,nCq]
  refine plan_do rfl ?_
  go_wp2_with fail
  refine (HFI.out _).mono ?_; rintro e w6 ⟨rfl,a⟩
  have H6:=(hIq (KeyAt.adds H5.out.1 a) (aIq (a.row H5.out.2.1 id) (fun Z' => KeyAt.adds H4.out.drew ((H5.out.2.2.trans a (fun _ => fEq)).setRow (.inr (Nat.le_refl _)) Z'))))
  clear a
  dsimp only
  go_step
  refine wpList_nil ?_
  change _ ∧ _
  refine ⟨H6.out.1,?_⟩
  iterate 3
   refine plan_look rfl rfl (fun w0 hS => (by clear hS; go_simp; try rfl)) ?_
   simp only [Act.put,nAq,nBq,nCq]
  refine plan_do rfl ?_
  go_wp2_with (first
   | fail
   | ((with_reducible show zOq (.store 30 _ _)); refine wpList_store_part rfl 30 _ _ rfl w4.drew.heap.size 0 K2 rfl rfl H6.out.2.1 (by rw [sizeB32,HK2.out.2.1]) (by rw [HK2.out.2.1,HZ3.out.2.1]; omega) HK2.out.2.2 K2 (by rw [splice_all _ _ (by rw [Array.length_toList,Array.length_toList,HK2.out.2.1,HZ3.out.2.1])]) ?_))
  refine ⟨(H6.out.2.2 _),?_⟩
  refine plan_end ?_; simp only [List.drop_succ_cons,List.drop_zero]
  go_wp2
  refine NoPanic.normal ?_
  go_wp2
  go_meet
  exact ⟨w4.drew.heap.size,rfl,row_setRow_same H6.out.2.1 _,(H6.out.2.2 _)⟩
 obtain ⟨tb,rfl,r9,h9⟩:=hcut
 have H9:=(hIq r9 h9)
 have hlt9:=row_lt h9.2.1
 clear r9 h9
 go_wp2_with (first
  | fail
  | ((with_reducible show zOq (.load 30 _)); refine wpList_load_part rfl 30 _ rfl tb 0 rfl H9.out.1 Tryz.underlying30 rfl sizeB32 (by rw [HK2.out.2.1]; omega) K2 (by simp [← HK2.out.2.1]) ?_)
  | ((with_reducible show zOq (.store 31 _ _)); refine wpList_store_part rfl 31 _ _ rfl w.heap.size 0 K2 rfl rfl H9.out.2.2.1 (by rw [sizeP,HK2.out.2.1]) (by rw [HK2.out.2.1,HZ.out.2]; omega) HK2.out.2.2 K2 (by rw [splice_all _ _ (by rw [Array.length_toList,Array.length_toList,HK2.out.2.1,HZ.out.2])]) ?_))
 exact bodyPost_ret_cell1 (p:=4) rfl rfl (row_setRow_same H9.out.2.2.1 _) Tryz.underlying31 rfl (by rw [sizeP,HK2.out.2.1]) rfl ⟨by rw [HK2.out.1],H9.out.2.2.2.setRow (.inr (Nat.le_refl _)) _⟩
end
section
variable {w w' : World} {b : Nat} {F : Nat → Prop} {ρ : Rs} {σ : SlabSt Nd}
theorem RKey_none (h:RAt w b F ρ) {n:Int} (hz0:ρ.sp n = Sp.zero) :
 Calls Tryz.prog 153 #[.pointer (some ⟨b,0,none⟩),.int .i64 n] w fun e w' => e = .returned (.agg (brow Nd.z32)) ∧ Adds w w':=by
 obtain ⟨Z,hZ⟩:∃ Z,Z = brow Nd.z32:=⟨_,rfl⟩
 have hzp:(Tryz.prog.info? 31).bind (·.zero) = some (.agg (brow Nd.z32)):=zeroP
 have hzb:Tryz.prog.built 31 [] = some (brow Nd.z32):=by kernel_rfl
 rw [← hZ] at hzp hzb ⊢
 have hZs:Z.size = 32 ∧ ∀ v ∈ Z.toList,v.oneCell' = true:=by rw [hZ]; exact ⟨rfl,brow_ones _⟩
 have a0:Adds w (w.alloc (.cells Z 31)):=(Ch.refl _ w).alloc _
 have HE:=Lib.hid (REntries_none (h.adds a0) hz0)
 have HZ:=(hIq hzp (aIq hZs (aIq hzb a0)))
 clear hzp hzb hZs a0 h hz0 hZ
 go_enter Tryz.func153,Tryz.ntmps153
 go_wp2_with (first
  | fail
  | ((with_reducible show zOq (.alloc 31)); refine wpList_alloc_is rfl 31 rfl (.agg Z) HZ.out.1 ?_; dsimp only [Value.cells]; try simp only [World.size_alloc]))
 refine HE.out.mono ?_; rintro e w1 ⟨rfl,a1⟩
 have hk1:=a1.row (heap_alloc_new w (.cells Z 31)) id
 have H1:=(hIq hk1 (HZ.out.2.2.2.trans a1 (fun _ => fEq)))
 have hlt:=row_lt hk1
 clear a1 hk1
 go_wp2_with (first
  | fail
  | ((with_reducible show zOq (.build 31 #[])); refine wpList_build_none rfl 31 rfl Z HZ.out.2.2.1 ?_)
  | ((with_reducible show zOq (.store 31 _ _)); refine wpList_store_part rfl 31 _ _ rfl w.heap.size 0 Z rfl rfl H1.out.1 (by rw [sizeP,HZ.out.2.1.1]) (by omega) HZ.out.2.1.2 Z (by rw [splice_all _ _ rfl]) ?_))
 exact bodyPost_ret_cell1 (p:=4) rfl rfl (row_setRow_same H1.out.1 _) Tryz.underlying31 rfl (by rw [sizeP,HZ.out.2.1.1]) rfl ⟨rfl,H1.out.2.setRow (.inr (Nat.le_refl _)) _⟩
theorem RKey_ok (h:RAt w b F ρ) (L:Lk σ ρ) (G:Good σ) (n:Int) :
 Calls Tryz.prog 153 #[.pointer (some ⟨b,0,none⟩),.int .i64 n] w fun e w' => e = .returned (.agg (brow (nd σ n).key)) ∧ Adds w w':=by
 cases hs:σ.get? n with
 | none =>
  rw [nd_none hs]
  exact RKey_none h (L.none hs)
 | some s =>
  rcases kind_ne G hs with h1 | h2
  · exact RKey_leaf h L G (by rw [nd_some hs]; exact h1)
  rw [nd_some hs]
  exact RKey_inner h L G hs h2
end
section
variable {P : Program}
theorem wpList_append_row {w:World} {ops:Array Oper} {rest:List Oper} {o:Oper} {a:Act} {Q:Exit → Act → World → Prop} (hgd:o.guard = none) (s x:Operand) (t:TypeId)
 (ho:o.op = .call { callee:=.builtin .append,args := #[s,x],argTypes := #[t,t] }) (e:TypeId) (he:e = 5) (i:TypeInfo) (ht:P.underlying t = some (.slice e)) (hi:P.info? e = some i) (hz:i.zero = some (.int .u8 0)) (hsize:i.size = 1) (hby:i.bytes = 1)
 (hs:a.eval s = .slice none 0 0) (xv:Value) (hx:a.eval x = xv) (bs:List UInt8) (hb:Bytes w xv bs) (hlen:bs.length ≤ 140737488355328)
 (h:∀ v' w',BytesRow w' w.heap.size v' bs → Adds w w' → wpList P ops Q rest (a.put o.dst v') w'):wpList P ops Q (o :: rest) a w :=
 wpList_plain hgd fun _ hK => by
  obtain ⟨v',w',hrun,r1,r2⟩:=run_append_copy' w t o.type e he i ht hi hz hsize hby xv bs hb hlen
  unfold Oper.wp
  simp [execOp,ho,resolve,invoke,builtin,hs,hx,hrun,Result.andThen]
  exact hK _ _ (h v' w' r1 r2)
end
theorem Value_row {w:World} {s:Nat} {F:Nat → Prop} {σ:SlabSt Nd} (h:At w s F σ) (n:Int) :
 Calls Tryz.prog 155 #[.pointer (some ⟨s,0,none⟩),.int .i64 n] w fun e w' => ∃ v,e = .returned v ∧ BytesRow w' w.heap.size v (nd σ n).value ∧ Adds w w':=by
 have hok:=h.ok n
 have hg:=get_ok h n
 have hbb:=h.bytes n
 obtain ⟨N,Z,hN,hn,hz⟩:=told h n
 rw [← hN] at hg
 have k0:N[66]? = some (nd σ n).addr:=by rw [hN]; exact Nd.at_addr hok
 have hvl:=hok.val
 obtain ⟨i0,hi,hz0,hz1,hz2⟩:=info8
 obtain ⟨ao,len,cap,hA⟩:=hok.addr
 rw [hA] at k0 hbb
 generalize (nd σ n).value = bs at hbb hvl
 have HG:=Lib.hid hg
 have HN:=Lib.hid hn
 have HZ:=Lib.hid hz
 have HB:=Lib.hid hbb
 have HI:=(hIq hi (aIq hz0 (aIq hz1 hz2)))
 have HV:=Lib.hid hvl
 clear hok hg hN hn hz h hbb hi hz0 hz1 hz2 hA hvl
 go_enter Tryz.func155,Tryz.ntmps155
 go_wp2_with fail
 refine HG.out.mono ?_; rintro e w1 ⟨rfl,hc1⟩
 have c0:=row_cell (row_setRow_same (heap_alloc_new w1 (.cells Z 123)) N) k0
 have C1:=Lib.hid hc1
 clear hc1 k0
 go_wp2_with (first
  | ((with_reducible show zOq (.alloc 123)); refine wpList_alloc_is rfl 123 rfl (.agg Z) HZ.out.1 ?_; dsimp only [Value.cells]; try simp only [World.size_alloc])
  | ((with_reducible show zOq (.store 123 (.tmp 5) _)); go_must (refine wpList_store_part rfl 123 _ _ rfl w1.heap.size 0 N rfl rfl (heap_alloc_new _ _) (by rw [sizeN,HN.out.1]) (by rw [HN.out.1,HZ.out.2]; omega) HN.out.2 N (by rw [splice_all _ _ (by rw [Array.length_toList,Array.length_toList,HN.out.1,HZ.out.2])]) ?_))
  | (at_builtin; refine wpList_append_row rfl _ _ 32 rfl 5 rfl i0 Tryz.underlying32 HI.out.1 HI.out.2.1 HI.out.2.2.1 HI.out.2.2.2 rfl _ rfl bs (HB.out.keep ((C1.out.alloc _).setRow (.inr C1.out.size) _) (fun _ _ h => h)) (by have:=HV.out; omega) ?_; intro v' w2 hb2 hc2; have HB2:=(hIq hb2 hc2); clear hb2 hc2))
 go_ret
 refine ⟨_,rfl,HB2.out.1.base (fun k hk => ?_),((C1.out.alloc _).setRow (.inr C1.out.size) _).trans HB2.out.2 (fun _ => fEq)⟩
 have:=(HB2.out.1.lt k hk).1
 have:=C1.out.size
 simp at *
 omega
end Go.Proofs.YtmeglndnkdgkoaaGreat.Store

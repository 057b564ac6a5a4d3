/- Laws of the layers below. -/
import Derived.Test.YtmeglndnkdgkoaaGreatQf18
set_option maxHeartbeats 3200000
set_option maxRecDepth 100000
set_option linter.unusedVariables false
namespace Go.Proofs.YtmeglndnkdgkoaaGreat.Store
open Go.RowKit Go.Sort Go.Proofs.YtmeglndnkdgkoaaGreat.ShaW Go.Proofs.YtmeglndnkdgkoaaGreat.Path Go.Proofs.YtmeglndnkdgkoaaGreat.Law9
theorem infoPair:∃ i z,Tryz.prog.info? 159 = some i ∧ i.zero = some z ∧ i.size = 33 ∧ i.bytes ≤ 4096 ∧ z.cells.size = 33:=by
 obtain ⟨i,h1,h2⟩:=Option.map_eq_some_iff.1 (by kernel_rfl:(Tryz.prog.info? 159).map (fun i => (i.size,decide (i.bytes ≤ 4096),i.zero.map (fun z => z.cells.size))) = some (33,true,some 33))
 simp only [Prod.mk.injEq,Option.map_eq_some_iff,decide_eq_true_eq] at h2
 obtain ⟨h2,h3,z,h4,h5⟩:=h2
 exact ⟨i,z,h1,h4,h2,h3,h5⟩
theorem wpList_append_pairs {w:World} {ops:Array Oper} {rest:List Oper} {o:Oper} {a:Act} {Q:Exit → Act → World → Prop} (hgd:o.guard = none) (s x:Operand)
 (ho:o.op = .call { callee:=.builtin .append,args := #[s,x],argTypes := #[63,63] }) {base b2:Nat} {v1 v2:Value} {l1 l2:List Pr} (hs:a.eval s = v1) (hx:a.eval x = v2) (h1:RowP w base v1 l1) (h2:RowP w b2 v2 l2)
 (hn2:l2 = [] → v2 = .slice none 0 0) (hl:l1.length + l2.length ≤ 200000) (hone:∀ p ∈ l2,∀ u ∈ p.cells.toList,u.oneCell' = true) (hbase:base ≤ w.heap.size)
 (h:∀ v' w',RowP w' base v' (l1 ++ l2) → ((l1 = [] → v1 = .slice none 0 0) → l1 ++ l2 = [] → v' = .slice none 0 0) → w.grownBy w' v1.ownBlock → wpList Tryz.prog ops Q rest (a.put o.dst v') w'):wpList Tryz.prog ops Q (o :: rest) a w:=by
 obtain ⟨i,z,p1,p2,p3,p4,p5⟩:=infoPair
 by_cases he:l2 = []
 · have e2:=hn2 he
   subst he
   obtain ⟨ao,cap,rfl⟩:=h1.form
   have hcap:l1.length ≤ cap:=by
    rcases h1.2 with ⟨e,h0⟩ | ⟨g,cap',cur,e,_,_,hn,_⟩
    · rw [h0]; exact Nat.zero_le _
    cases e; exact hn
   refine wpList_plain hgd fun K hK => ?_
   have hrun:=run_append_nothing (P:=Tryz.prog) w 63 63 o.type 159 i Tryz.underlying63 p1 ao l1.length cap hcap _ (Src.ofNil w Tryz.underlying63 0)
   unfold Oper.wp
   simp [execOp,ho,resolve,invoke,builtin,hs,hx,e2,hrun,Result.andThen]
   refine hK _ _ (h _ w ?_ ?_ ⟨rfl,rfl,rfl,Nat.le_refl _,fun _ _ _ => rfl⟩)
   · rw [List.append_nil]; exact h1
   rw [List.append_nil]; exact id
 have hpos:0 < l2.length:=List.length_pos_iff.2 he
 obtain ⟨g,cap,cur,rfl,hg,q1,q2,q3,q4⟩:=owns_block h2 hpos
 obtain ⟨bytes,hby⟩:∃ bytes,bytes = i.bytes:=⟨_,rfl⟩
 have hfl:(flatP l2).length = l2.length * 33:=h2.1
 refine wpList_append_own w hgd s x 63 ho base 159 i z 33 bytes Tryz.underlying63 p1 p2 p3 hby.symm p5 (by decide) v1 l1.length (flatP l1) hs h1 ⟨g,0,none⟩ l2.length cap (flatP l2) hx hfl (fun j u hu => ?_) (fun u hu => ?_) (by unfold maxLen; omega) ?_ hbase ?_
 · have:=row_cell hg (take_get q4 hu)
   simpa [add_plain] using this
 · obtain ⟨p,hp,hu⟩:=List.mem_flatMap.1 hu
   exact hone p hp u hu
 · rw [hby]
   have:(l1.length + l2.length) * i.bytes ≤ 200000 * 4096:=Nat.mul_le_mul hl p4
   omega
 intro v' w' own' grow' nil'
 refine h v' w' ?_ (fun _ e => absurd (List.append_eq_nil_iff.1 e).2 he) grow'
 show w'.ownsRow base _ 33 v' (l1 ++ l2).length (flatP (l1 ++ l2))
 rw [List.length_append,show flatP (l1 ++ l2) = flatP l1 ++ flatP l2 by simp [flatP]]
 exact own'
section
variable {b : Nat} {F : Nat → Prop} {ρ : Rs} {σ : SlabSt Nd}
def EntsAt (w w':World) (F:Nat → Prop) (L:Ents) (v:Value) (out:List Pr):Prop :=
 RowP w' w.heap.size v out ∧ out.map Pr.ent = L ∧ (out = [] → v = .slice none 0 0) ∧ (∀ x ∈ out,x.key.length = 32 ∧ Bytes w' x.vv x.val ∧ ∀ k,x.vv.ownBlock = some k → F k) ∧ Adds w w'
theorem EntsAt.one {w w':World} {L:Ents} {v:Value} {out:List Pr} (h:EntsAt w w' F L v out):∀ p ∈ out,∀ u ∈ p.cells.toList,u.oneCell' = true:=fun p hp => by
 obtain ⟨_,_,_,h4,_⟩:=h
 obtain ⟨hk,hb,_⟩:=h4 p hp
 obtain ⟨ao,cap,e,_⟩:=hb.form
 intro u hu
 rw [Pr.list,List.mem_append,List.mem_map,List.mem_singleton] at hu
 rcases hu with ⟨c,_,rfl⟩ | rfl
 · rfl
 rw [e]; rfl
theorem REntries_ok (L:Lk σ ρ) (G:Good σ) {h:Int} {d:Nat} {t:Tr} (hr:Rep (sk σ) h d t):∀ {w:World},RAt w b F ρ →
 Calls Tryz.prog 106 #[.pointer (some ⟨b,0,none⟩),.int .i64 h] w fun e w' => ∃ v out,e = .returned v ∧ EntsAt w w' F t.ents v out:=by
 induction hr with
 | @nil d =>
  intro w hA
  have hg:=Rat_ok hA 0
  have hz0:ρ.sp 0 = Sp.zero:=by unfold Rs.sp; rw [if_neg (by omega)]
  rw [hz0] at hg
  obtain ⟨Z,hZ⟩:∃ Z,Z = Sp.zero.cells:=⟨_,rfl⟩
  have hzs:=zeroSp
  rw [← hZ] at hg hzs
  have k0:Z[0]? = some (.int .u8 0):=by rw [hZ]; rfl
  have HZ:=(hIq hzs (by rw [hZ]; exact ⟨Sp.cells_size Sp.zero_ok,Sp.cells_one Sp.zero_ok⟩:Z.size = 39 ∧ ∀ v ∈ Z.toList,v.oneCell' = true))
  have HG:=Lib.hid hg
  have K0:=Lib.hid k0
  clear hg hz0 hZ hzs hA k0
  go_enter Tryz.func106,Tryz.ntmps106
  go_wp2_with fail
  refine HG.out.mono ?_; rintro e w1 ⟨rfl,a1⟩
  have c0:=row_cell (row_setRow_same (heap_alloc_new w1 (.cells Z 198)) Z) K0.out
  have A1:=Lib.hid a1
  clear a1
  go_wp2_with (first
   | fail
   | ((with_reducible show zOq (.alloc 198)); refine wpList_alloc_is rfl 198 rfl (.agg Z) HZ.out.1 ?_; dsimp only [Value.cells]; try simp only [World.size_alloc])
   | ((with_reducible show zOq (.store 198 _ _)); refine wpList_store_part rfl 198 _ _ rfl w1.heap.size 0 Z rfl rfl (heap_alloc_new _ _) (by rw [sizeSp,HZ.out.2.1]) (by omega) HZ.out.2.2 Z (by rw [splice_all _ _ rfl]) ?_))
  go_ret
  exact ⟨_,[],rfl,RowP.nil _ _,rfl,fun _ => rfl,(fun x hx => absurd hx List.not_mem_nil),(A1.out.alloc _).setRow (.inr A1.out.size) _⟩
 | @leaf h d n hn hk =>
  intro w hA
  obtain ⟨s,hs,rfl⟩:=sk_get hn
  obtain ⟨m,x,rfl,hlt,hsm,hx,h0,hsp,hkx,hk0,hle,hri,hv,hkey,hd,ho,hos⟩:=L.some G hs
  have hk1:s.1.kind = 1:=hk
  have hg:=Rat_ok hA ((m:Int) + 1)
  rw [hsp] at hg
  have hok:=(hA.1.nums x (List.mem_of_getElem? hx)).1
  have hel:Bytes w x.addr x.value ∧ ∀ k,x.addr.ownBlock = some k → F k:=by
   obtain ⟨_,_,_,_,_,_,h4,_⟩:=hA
   exact ⟨(h4 x (List.mem_of_getElem? hx)).1,fun k hk => ((h4 x (List.mem_of_getElem? hx)).2 k hk).1⟩
  obtain ⟨Z,hZ⟩:∃ Z,Z = Sp.zero.cells:=⟨_,rfl⟩
  have hzs:=zeroSp
  rw [← hZ] at hzs
  obtain ⟨N,hN⟩:∃ N,N = x.cells:=⟨_,rfl⟩
  have hNs:N.size = 39 ∧ ∀ v ∈ N.toList,v.oneCell' = true:=by rw [hN]; exact ⟨Sp.cells_size hok,Sp.cells_one hok⟩
  have k0:N[0]? = some (.int .u8 1):=by
   rw [hN,Sp.at_kind,hkx,hk1]; rfl
  obtain ⟨E,hE⟩:∃ E,E = x.entry:=⟨_,rfl⟩
  have hex:N.extract 2 (2 + 33) = E:=by rw [hN,hE]; exact Sp.at_entry hok
  have hEs:E.size = 33:=by rw [hE]; simp [Sp.entry,hok.key]
  rw [← hN] at hg
  obtain ⟨i0,z0,p1,p2,p3,p4,p5⟩:=infoPair
  have HI:=(hIq p1 (aIq p2 (aIq p3 (aIq p4 p5))))
  have HZ:=(hIq hzs (by rw [hZ]; exact Sp.cells_size Sp.zero_ok:Z.size = 39))
  have HG:=Lib.hid hg
  have HN:=(hIq hNs (aIq k0 (aIq hex hEs)))
  have HX:=(hIq hel (aIq hok.key (aIq hE (aIq (hkey hk1) hv))))
  clear hg hN hNs k0 hex hE hEs hzs hZ hel hok hA hx hsm hs hn hk hk1 hkx hle hri hv hkey hd ho hos p1 p2 p3 p4 p5
  go_enter Tryz.func106,Tryz.ntmps106
  go_wp2_with fail
  refine HG.out.mono ?_; rintro e w1 ⟨rfl,a1⟩
  have c0:=row_cell (row_setRow_same (heap_alloc_new w1 (.cells Z 198)) N) HN.out.2.1
  have A1:=Lib.hid a1
  clear a1
  go_wp2_with (first
   | fail
   | ((with_reducible show zOq (.alloc 198)); refine wpList_alloc_is rfl 198 rfl (.agg Z) HZ.out.1 ?_; dsimp only [Value.cells]; try simp only [World.size_alloc])
   | ((with_reducible show zOq (.store 198 _ _)); refine wpList_store_part rfl 198 _ _ rfl w1.heap.size 0 N rfl rfl (heap_alloc_new _ _) (by rw [sizeSp,HN.out.1.1]) (by rw [HN.out.1.1,HZ.out.2]; omega) HN.out.1.2 N (by rw [splice_all _ _ (by rw [Array.length_toList,Array.length_toList,HN.out.1.1,HZ.out.2])]) ?_)
   | ((with_reducible show zOq (.load 159 _)); refine wpList_load_part rfl 159 _ rfl w1.heap.size 2 rfl (row_setRow_same (heap_alloc_new _ _) _) Tryz.underlying159 rfl (by rw [HI.out.1]; exact congrArg some HI.out.2.2.1) (by rw [HN.out.1.1]; omega) E HN.out.2.2.1 ?_)
   | ((with_reducible show zOq (.buildSlice 63 _ _)); refine wpList_buildSlice_one rfl 63 _ rfl 159 i0 z0 (.agg E) rfl Tryz.underlying63 HI.out.1 HI.out.2.1 (by rw [HI.out.2.2.1]; omega) (by rw [HI.out.2.2.1]; omega) (by rw [HI.out.2.2.1]; exact HN.out.2.2.2) ?_))
  go_ret
  have hA2:Adds w ((w1.alloc (.cells Z 198)).setRow w1.heap.size N):=(A1.out.alloc _).setRow (.inr A1.out.size) _
  refine ⟨_,[⟨x.key,x.addr,x.value⟩],rfl,?_,?_,(fun h => by cases h),fun y hy => ?_,hA2.alloc _⟩
  · have hr:(((w1.alloc (.cells Z 198)).setRow w1.heap.size N).alloc (.cells E 159)).heap[w1.heap.size + 1]? = some (.cells E 159 (0,0)):=by
     simpa using heap_alloc_new ((w1.alloc (.cells Z 198)).setRow w1.heap.size N) (.cells E 159)
    refine World.ownsRow.base (b:=0) (owns_mk' hr (Nat.le_refl 1) (by unfold maxLen; omega) (by show E.size = 1 * 33; rw [HN.out.2.2.2]) ?_) (fun j hj => ?_)
    · show E.toList.take (1 * 33) = flatP [_]
      rw [List.take_of_length_le (by rw [Array.length_toList,HN.out.2.2.2]; omega),HX.out.2.2.1]
      simp [flatP,Pr.list,Sp.entry]
    cases hj
    have:=A1.out.size
    dsimp only
    omega
  · show [(x.key,x.value)] = _
    rw [HX.out.2.2.2.1,HX.out.2.2.2.2]
    rfl
  obtain rfl:=List.mem_singleton.1 hy
  exact ⟨HX.out.2.1,HX.out.1.1.keep (hA2.alloc _) (fun _ _ h => h),HX.out.1.2⟩
 | @node h d n l r hn hk hd hl hrr ihl ihr =>
  intro w hA
  have hrep:Rep (sk σ) h d (.node l r):=.node hn hk hd hl hrr
  have hle2:=ents_le G hrep
  have hrm:σ.slots.length ≤ 65536:=Nat.le_trans G.sound.wf.len G.sound.wf.room.2
  have hne:(Tr.node l r).ents ≠ []:=by
   intro e
   have:=(Rep.many G.fit hrep).2.1 rfl
   rw [e] at this
   simp at this
  obtain ⟨s,hs,rfl⟩:=sk_get hn
  obtain ⟨m,x,rfl,hlt,hsm,hx,h0,hsp,hkx,hk0,hle,hri,hv,hkey,hd',ho,hos⟩:=L.some G hs
  have hk1:s.1.kind = 2:=hk
  have hg:=Rat_ok hA ((m:Int) + 1)
  rw [hsp] at hg
  have hok:=(hA.1.nums x (List.mem_of_getElem? hx)).1
  obtain ⟨Z,hZ⟩:∃ Z,Z = Sp.zero.cells:=⟨_,rfl⟩
  have hzs:=zeroSp
  rw [← hZ] at hzs
  obtain ⟨N,hN⟩:∃ N,N = x.cells:=⟨_,rfl⟩
  have hNs:N.size = 39 ∧ ∀ v ∈ N.toList,v.oneCell' = true:=by rw [hN]; exact ⟨Sp.cells_size hok,Sp.cells_one hok⟩
  have k0:N[0]? = some (.int .u8 2):=by
   rw [hN,Sp.at_kind,hkx,hk1]; rfl
  have kl:N[35]? = some (.int .i64 s.1.left):=by rw [hN,Sp.at_left hok,hle]
  have kr:N[36]? = some (.int .i64 s.1.right):=by rw [hN,Sp.at_right hok,hri]
  rw [← hN] at hg
  obtain ⟨lf,hlf⟩:∃ lf,lf = s.1.left:=⟨_,rfl⟩
  obtain ⟨rg,hrg⟩:∃ rg,rg = s.1.right:=⟨_,rfl⟩
  rw [← hlf] at kl
  rw [← hrg] at kr
  have hil:∀ w:World,RAt w b F ρ → Calls Tryz.prog 106 #[.pointer (some ⟨b,0,none⟩),.int .i64 lf] w fun e w' => ∃ v out,e = .returned v ∧ EntsAt w w' F l.ents v out:=by rw [hlf]; exact fun w h => ihl h
  have hir:∀ w:World,RAt w b F ρ → Calls Tryz.prog 106 #[.pointer (some ⟨b,0,none⟩),.int .i64 rg] w fun e w' => ∃ v out,e = .returned v ∧ EntsAt w w' F r.ents v out:=by rw [hrg]; exact fun w h => ihr h
  have hlen:l.ents.length + r.ents.length ≤ 200000:=by
   have e:(Tr.node l r).ents.length = l.ents.length + r.ents.length:=by show (l.ents ++ r.ents).length = _; rw [List.length_append]
   omega
  have HZ:=(hIq hzs (by rw [hZ]; exact Sp.cells_size Sp.zero_ok:Z.size = 39))
  have HG:=Lib.hid hg
  have HA:=Lib.hid hA
  have HN:=(hIq hNs (aIq k0 (aIq kl kr)))
  have HIL:=Lib.hid hil
  have HIR:=Lib.hid hir
  have HL:=(hIq hlen hne)
  clear hg hN hNs k0 kl kr hlf hrg hil hir hlen hne hzs hZ hok hA hx hsm hs hn hk hk1 hkx hle hri hv hkey hd hd' ho hos hle2 hrm hrep ihl ihr hl hrr hlt hsp h0 hk0
  go_enter Tryz.func106,Tryz.ntmps106
  go_wp2_with fail
  refine HG.out.mono ?_; rintro e w1 ⟨rfl,a1⟩
  have c0:=row_cell (row_setRow_same (heap_alloc_new w1 (.cells Z 198)) N) HN.out.2.1
  have A1:=Lib.hid a1
  clear a1
  go_wp2_with (first
   | fail
   | ((with_reducible show zOq (.alloc 198)); refine wpList_alloc_is rfl 198 rfl (.agg Z) HZ.out.1 ?_; dsimp only [Value.cells]; try simp only [World.size_alloc])
   | ((with_reducible show zOq (.store 198 _ _)); refine wpList_store_part rfl 198 _ _ rfl w1.heap.size 0 N rfl rfl (heap_alloc_new _ _) (by rw [sizeSp,HN.out.1.1]) (by rw [HN.out.1.1,HZ.out.2]; omega) HN.out.1.2 N (by rw [splice_all _ _ (by rw [Array.length_toList,Array.length_toList,HN.out.1.1,HZ.out.2])]) ?_))
  obtain ⟨B,hB⟩:∃ B,B = w1.heap.size:=⟨_,rfl⟩
  obtain ⟨w2,hw2⟩:∃ w2,w2 = (w1.alloc (.cells Z 198)).setRow w1.heap.size N:=⟨_,rfl⟩
  have hr2:=row_setRow_same (heap_alloc_new w1 (.cells Z 198)) N
  have hA2:Adds w ((w1.alloc (.cells Z 198)).setRow w1.heap.size N):=(A1.out.alloc _).setRow (.inr A1.out.size) _
  rw [← hw2] at hr2 hA2
  rw [← hB] at hr2
  have R2:=(hIq hr2 hA2)
  clear hr2 hA2 c0
  simp only [← hw2]
  simp only [← hB]
  clear hw2 hB
  refine wp_region_plan (fun wz => wz.heap[B]? = some (.cells N 198 (0,0))) 10 [(0,false),(1,false),(2,false),(4,false),(5,false),(6,false),(3,true),(7,true),(8,true),(9,false)] (by kernel_rfl) (by kernel_rfl) ?_ ?_
  · exact row_drew R2.out.1
  iterate 2
   refine plan_look rfl rfl (fun w0 hS => (by clear hS; go_simp; try rfl)) ?_
   simp only [Act.put,nAq,nBq,nCq]
  refine plan_look (v:=.int .i64 lf) rfl rfl (fun w0 hS => (by have c1:=row_cell hS HN.out.2.2.1; clear hS; go_simp; try rfl)) ?_
  simp only [Act.put,nAq,nBq,nCq]
  iterate 2
   refine plan_look rfl rfl (fun w0 hS => (by clear hS; go_simp; try rfl)) ?_
   simp only [Act.put,nAq,nBq,nCq]
  refine plan_look (v:=.int .i64 rg) rfl rfl (fun w0 hS => (by have c1:=row_cell hS HN.out.2.2.2; clear hS; go_simp; try rfl)) ?_
  simp only [Act.put,nAq,nBq,nCq]
  refine plan_do rfl ?_
  have ad2:Adds w w2.drew:=R2.out.2.trans (Ch.refl (fun _ => False) w2).drew (fun _ => fEq)
  go_wp2_with fail
  refine (HIL.out _ (HA.out.adds ad2)).mono ?_; rintro e w3 ⟨v1,o1,rfl,e1⟩
  have ad3:Adds w w3:=ad2.trans e1.2.2.2.2 (fun _ => fEq)
  have E1:=(hIq e1 (aIq ad3 (aIq (e1.2.2.2.2.row (row_drew R2.out.1) id) ad2)))
  clear e1 ad3 ad2
  dsimp only
  go_step
  refine wpList_nil ?_
  change _ ∧ _
  refine ⟨E1.out.2.2.1,?_⟩
  refine plan_do rfl ?_
  go_wp2_with fail
  refine (HIR.out _ (HA.out.adds E1.out.2.1)).mono ?_; rintro e w4 ⟨v2,o2,rfl,e2⟩
  have ad4:Adds w w4:=E1.out.2.1.trans e2.2.2.2.2 (fun _ => fEq)
  have E2:=(hIq e2 (aIq ad4 (e2.2.2.2.2.row E1.out.2.2.1 id)))
  clear e2 ad4
  dsimp only
  go_step
  refine wpList_nil ?_
  change _ ∧ _
  refine ⟨E2.out.2.2,?_⟩
  refine plan_do rfl ?_
  have hp1:RowP w4 w2.drew.heap.size v1 o1:=E2.out.1.2.2.2.2.owns E1.out.1.1 (fun _ _ h => h)
  have hp0:RowP w4 w.heap.size v1 o1:=World.ownsRow.base hp1 (fun j hj => Nat.le_trans E1.out.2.2.2.size (hp1.lt j hj).1)
  have hB2:B < w2.drew.heap.size:=(Array.getElem?_eq_some_iff.1 (row_drew R2.out.1)).1
  have hF:∀ k,F k → k < w.heap.size:=by obtain ⟨_,_,_,_,_,_,_,_,_,_,h8⟩:=HA.out; exact h8
  refine wpList_append_pairs rfl _ _ rfl rfl rfl hp0 E2.out.1.1 E2.out.1.2.2.1 ?_ E2.out.1.one ?_ ?_
  · have h1:=congrArg List.length E1.out.1.2.1
    have h2:=congrArg List.length E2.out.1.2.1
    rw [List.length_map] at h1 h2
    rw [h1,h2]; exact HL.out.1
  · exact E2.out.2.1.size
  intro v5 w5 hr5 hn5 hg5
  replace hn5:=hn5 E1.out.1.2.2.1
  obtain ⟨ao,cap,rfl⟩:=hr5.form
  have ad5:Adds w w5:=Ch.grown E2.out.2.1 hg5 (fun k hk => .inr (hp0.lt k hk).1)
  have c45:Ch (fun k => v1.ownBlock = some k) w4 w5:=Ch.grown (Ch.refl _ _) hg5 (fun k hk => .inl hk)
  have hS:w5.heap[B]? = some (.cells N 198 (0,0)):=c45.row E2.out.2.2 (fun h => by have:=(hp1.lt B h).1; omega)
  have hend:EntsAt w w5 F (Tr.node l r).ents (.slice ao (o1 ++ o2).length cap) (o1 ++ o2):=by
   refine ⟨hr5,?_,hn5,fun x hx => ?_,ad5⟩
   · rw [List.map_append,E1.out.1.2.1,E2.out.1.2.1]; rfl
   rcases List.mem_append.1 hx with hx | hx
   · obtain ⟨g1,g2,g3⟩:=E1.out.1.2.2.2.1 x hx
     exact ⟨g1,(g2.keep E2.out.1.2.2.2.2 (fun _ _ h => h)).keep c45 (fun k hk h => by have:=hF k (g3 k hk); have:=(hp0.lt k h).1; omega),g3⟩
   obtain ⟨g1,g2,g3⟩:=E2.out.1.2.2.2.1 x hx
   exact ⟨g1,g2.keep c45 (fun k hk h => by have:=hF k (g3 k hk); have:=(hp0.lt k h).1; omega),g3⟩
  have HE:=Lib.hid hend
  clear hend ad5 c45 hr5 hn5 hg5 hp0 hp1 hB2 hF
  refine wpList_nil ?_
  change _ ∧ _
  refine ⟨hS,?_⟩
  clear hS
  refine plan_look rfl rfl (fun w0 hS => (by clear hS; go_simp; try rfl)) ?_
  simp only [Act.put,nAq,nBq,nCq]
  refine plan_end ?_; simp only [List.drop_succ_cons,List.drop_zero]
  go_wp2
  refine NoPanic.normal ?_
  go_wp2
  go_ret
  have e:=HE.out
  rw [List.length_append] at e
  exact ⟨_,o1 ++ o2,rfl,e⟩
end
end Go.Proofs.YtmeglndnkdgkoaaGreat.Store
namespace Go.Proofs.YtmeglndnkdgkoaaGreat.Path
open Go.RowKit
theorem RBit_in (k:List UInt8) (hk:k.length = 32) (d:Nat) (hd:d < 256) (w:World):Calls Tryz.prog 170 #[.agg (brow k),.int .i64 (d:Int)] w fun e w' => e = .returned (.int .i64 (kbit k d:Nat)) ∧ Ch (fun _ => False) w w':=by
 have hx:=brow_get (l:=k) (i:=d / 8) (by omega)
 have hkb:kbit k d = bbit (k.getD (d / 8) 0) (d % 8):=rfl
 generalize k.getD (d / 8) 0 = x at hx hkb
 obtain ⟨K,hK⟩:∃ K,K = brow k:=⟨_,rfl⟩
 rw [← hK] at hx ⊢
 have h0:(0:Int) ≤ (d:Int):=by omega
 have h1:(d:Int) < 256:=by omega
 have h2:¬ (256:Int) ≤ (d:Int):=by omega
 have n1:(0:Int) ≤ (d:Int) / 8:=by omega
 have n2:(d:Int) / 8 < 32:=by omega
 have n3:((d:Int) / 8).toNat = d / 8:=by omega
 have c0:(w.alloc (.cells K 30)).cell? ⟨w.heap.size,d / 8,none⟩ = some (bv x):=row_cell (heap_alloc_new _ _) hx
 have HKB:=Lib.hid hkb
 clear hkb hK hx
 go_enter Tryz.func170,Tryz.ntmps170
 go_wp2_with fail
 go_loopg [5,6] (7 - d % 8) (fun g s5 s6 wr => ∃ i y:Nat,i ≤ 7 - d % 8 ∧ g = 7 - d % 8 - i ∧ s5 = .int .i64 (y:Int) ∧ s6 = .int .i64 (i:Int) ∧ y = x.toNat / 2 ^ i ∧ y ≤ 255 ∧ Ch (fun _ => False) w wr)
 case atStart => exact ⟨0,x.toNat,Nat.zero_le _,rfl,by have:=x.toNat_lt; first | rfl | rw [show wrap64 (x.toNat:Int) = x.toNat by unfold wrap64; omega],rfl,by simp,by have:=x.toNat_lt; omega,(Ch.refl _ _).alloc _⟩
 obtain ⟨i,y,hi,rfl,rfl,rfl,hy,hy2,hch⟩:=hrel
 have HY:=(hIq hy hch)
 clear hy hch
 have e8:d % 8 < 8:=Nat.mod_lt _ (by decide)
 by_cases hlt:i < 7 - d % 8
 · have p1:decide ((i:Int) < 7 - (d:Int) % 8) = true:=decide_eq_true (by omega)
   have p2:(i:Int) < 7 - (d:Int) % 8:=by omega
   go_wp2
   go_roundg (7 - d % 8 - (i + 1))
   case measure => omega
   exact ⟨i + 1,y / 2,by omega,rfl,by first | rfl | go_num,by go_num,by rw [HY.out.1,Nat.div_div_eq_div_mul,Nat.pow_succ],by omega,HY.out.2⟩
 have p1:decide ((i:Int) < 7 - (d:Int) % 8) = false:=decide_eq_false (by omega)
 have p2:¬ (i:Int) < 7 - (d:Int) % 8:=by omega
 go_wp2
 go_ret
 have hie:i = 7 - d % 8:=by omega
 refine ⟨?_,HY.out.2⟩
 rw [HKB.out]
 unfold bbit
 rw [← hie, ← HY.out.1]
 rfl
theorem sizeB32:(Tryz.prog.info? 30).map (·.size) = some 32:=by kernel_rfl
theorem common_of {a b:List UInt8} (ha:a.length = 32) (hb:b.length = 32) {i:Nat} (hi:i ≤ 256) (hp:Store.Pre a b i) (hn:i = 256 ∨ kbit a i ≠ kbit b i):common a b = i:=by
 have h1:=Store.le_common ha hb hi hp
 have h3:common a b ≤ 256:=by
  by_cases e:a = b
  · rw [e,common_self,hb]; exact Nat.le_refl _
  have:=(Store.common_spec a b (ha.trans hb.symm) e).1
  omega
 rcases hn with rfl | hn
 · omega
 by_cases h2:i < common a b
 · exact absurd (Store.pre_common ha hb h2 i (Nat.lt_succ_self i)) hn
 omega
theorem plan_gload_b {P:Program} {S:World → Prop} {Q:Exit → Act → World → Prop} {l:List Oper} {n i:Nat} {r:List (Nat × Bool)} {a:Act} {w:World} {o:Oper} (ho:l[i]? = some o) (hw:Region.wanted o (yielded l.toArray a.tmps) = true) (ty:TypeId) (x:Operand) (hop:o.op = .load ty x) (g off k:Nat) (hx:a.eval x = .pointer (some ⟨g,off,none⟩))
 {t:TypeId} {cur:Array Value} {fr:Nat × Nat} {d:TypeDesc} (hg:∀ w0,S w0 → w0.heap[g]? = some (.cells cur t fr)) (hu:P.underlying ty = some d) (hd:d.isRow = true) (hi:(P.info? ty).map (·.size) = some k) (hfit:off + k ≤ cur.size) (cs:Array Value) (hv:cur.extract off (off + k) = cs)
 (h:wpPlan P l Q S n r (a.put o.dst (.agg cs)) w):wpPlan P l Q S n ((i,false) :: r) a w :=
 plan_look ho hw (fun w0 hS => by
  unfold execOp
  simp only [hop,hx,Instr.loadAt,Instr.sureAddr,Sem.run_bind,Sem.run_pure,Result.andThen_ok,run_load_part w0 (hg w0 hS) hu hd hi hfit,hv]) h
theorem RCommon_ok (a b:List UInt8) (ha:a.length = 32) (hb:b.length = 32) (w:World) :
 Calls Tryz.prog 165 #[.agg (brow a),.agg (brow b)] w fun e w' => e = .returned (.int .i64 (common a b:Nat)) ∧ Ch (fun _ => False) w w':=by
 have hba:=fun d hd w => RBit_in a ha d hd w
 have hbb:=fun d hd w => RBit_in b hb d hd w
 obtain ⟨A,hA⟩:∃ A,A = brow a:=⟨_,rfl⟩
 obtain ⟨B,hB⟩:∃ B,B = brow b:=⟨_,rfl⟩
 have hAs:A.size = 32:=by rw [hA,brow_size,ha]
 have hBs:B.size = 32:=by rw [hB,brow_size,hb]
 rw [← hA] at hba ⊢
 rw [← hB] at hbb ⊢
 have g1:((w.alloc (.cells A 30)).alloc (.cells B 30)).heap[w.heap.size]? = some (.cells A 30 (0,0)):=row_alloc (heap_alloc_new _ _) _
 have g2:((w.alloc (.cells A 30)).alloc (.cells B 30)).heap[w.heap.size + 1]? = some (.cells B 30 (0,0)):=by
  have:=heap_alloc_new (w.alloc (.cells A 30)) (.cells B 30)
  simpa using this
 obtain ⟨n,hn⟩:∃ n,n = w.heap.size:=⟨_,rfl⟩
 have had:Ch (fun _ => False) w ((w.alloc (.cells A 30)).alloc (.cells B 30)):=((Ch.refl _ _).alloc _).alloc _
 have HA:=(hIq hAs hba)
 have HB:=(hIq hBs hbb)
 have G:=(hIq g1 (aIq g2 had))
 have HLA:=(hIq ha hb)
 clear hA hB hAs hBs g1 g2 ha hb hba hbb had hn
 go_enter Tryz.func165,Tryz.ntmps165
 go_wp2_with fail
 go_loopg [5] (256) (fun g s5 wr => ∃ i:Nat,i ≤ 256 ∧ g = 256 - i ∧ s5 = .int .i64 (i:Int) ∧ Store.Pre a b i ∧ wr.heap[w.heap.size]? = some (.cells A 30 (0,0)) ∧ wr.heap[w.heap.size + 1]? = some (.cells B 30 (0,0)) ∧ Ch (fun _ => False) w wr)
 case atStart => exact ⟨0,Nat.zero_le _,rfl,rfl,fun i hi => absurd hi (Nat.not_lt_zero _),G.out.1,G.out.2.1,G.out.2.2⟩
 obtain ⟨i,hi,rfl,rfl,hp,h1,h2,hch⟩:=hrel
 have HH:=(hIq hp (aIq hch (aIq h1 h2)))
 clear hp hch h1 h2
 by_cases hlt:i < 256
 · have p1:decide ((i:Int) < 256) = true:=decide_eq_true (by omega)
   go_wp2
   refine wp_region_plan (fun wz => wz.heap[w.heap.size]? = some (.cells A 30 (0,0)) ∧ wz.heap[w.heap.size + 1]? = some (.cells B 30 (0,0))) 11 [(0,false),(1,false),(2,false),(3,false),(4,false),(6,false),(7,false),(5,true),(8,true),(9,false),(10,false)] (by kernel_rfl) (by kernel_rfl) ?_ ?_
   · exact ⟨row_drew HH.out.2.2.1,row_drew HH.out.2.2.2⟩
   refine plan_look rfl rfl (fun w0 hS => (by clear hS; go_simp; try rfl)) ?_
   simp only [Act.put,nAq,nBq,nCq]
   iterate 2
    refine plan_look (v:=.bool true) rfl rfl (fun w0 hS => (by clear hS; go_simp; try rfl)) ?_
    simp only [Act.put,nAq,nBq,nCq]
   refine plan_gload_b (cur:=A) (t:=30) (fr:=(0,0)) rfl rfl 30 _ rfl w.heap.size 0 32 rfl (fun w0 hS => hS.1) Tryz.underlying30 rfl sizeB32 (by rw [HA.out.1]; omega) A (by have:=HA.out.1; simp [← this]) ?_
   simp only [Act.put,nAq,nBq,nCq]
   refine plan_look rfl rfl (fun w0 hS => (by clear hS; go_simp; try rfl)) ?_
   simp only [Act.put,nAq,nBq,nCq]
   refine plan_gload_b (cur:=B) (t:=30) (fr:=(0,0)) rfl rfl 30 _ rfl (w.heap.size + 1) 0 32 rfl (fun w0 hS => hS.2) Tryz.underlying30 rfl sizeB32 (by rw [HB.out.1]; omega) B (by have:=HB.out.1; simp [← this]) ?_
   simp only [Act.put,nAq,nBq,nCq]
   refine plan_look rfl rfl (fun w0 hS => (by clear hS; go_simp; try rfl)) ?_
   simp only [Act.put,nAq,nBq,nCq]
   refine plan_do rfl ?_
   go_wp2_with fail
   refine (HA.out.2 i hlt _).mono ?_; rintro e w3 ⟨rfl,a3⟩
   have A3:=(hIq ((HH.out.2.1.drew).trans a3 (fun _ => fEq)) (aIq (a3.row (row_drew HH.out.2.2.1) id) (a3.row (row_drew HH.out.2.2.2) id)))
   clear a3
   dsimp only
   go_step
   refine wpList_nil ?_
   change _ ∧ _
   refine ⟨A3.out.2,?_⟩
   refine plan_do rfl ?_
   go_wp2_with fail
   refine (HB.out.2 i hlt _).mono ?_; rintro e w4 ⟨rfl,a4⟩
   have A4:=(hIq (A3.out.1.trans a4 (fun _ => fEq)) (aIq (a4.row A3.out.2.1 id) (a4.row A3.out.2.2 id)))
   clear a4
   dsimp only
   go_step
   refine wpList_nil ?_
   change _ ∧ _
   refine ⟨A4.out.2,?_⟩
   obtain ⟨x,hx⟩:∃ x,x = kbit a i:=⟨_,rfl⟩
   obtain ⟨y,hy⟩:∃ y,y = kbit b i:=⟨_,rfl⟩
   simp only [← hx, ← hy]
   have HXY:=(hIq hx hy)
   clear hx hy
   by_cases hxy:x = y
   · have q1:((x:Int) == (y:Int)) = true:=by rw [hxy]; simp
     have q2:decide ((x:Int) = (y:Int)) = true:=by rw [hxy]; simp
     refine plan_look (v:=.bool true) rfl rfl (fun w0 hS => (by clear hS; go_simp; try rfl)) ?_
     simp only [Act.put,nAq,nBq,nCq]
     refine plan_look (v:=.bool true) rfl rfl (fun w0 hS => (by clear hS; go_simp; try rfl)) ?_
     simp only [Act.put,nAq,nBq,nCq]
     refine plan_end ?_; simp only [List.drop_succ_cons,List.drop_zero]
     go_wp2
     refine NoPanic.normal ?_
     go_wp2
     go_roundg (256 - (i + 1))
     case measure => omega
     refine ⟨i + 1,by omega,rfl,by first | rfl | go_num,fun j hj => ?_,A4.out.2.1,A4.out.2.2,A4.out.1⟩
     by_cases hji:j < i
     · exact HH.out.1 j hji
     rw [show j = i by omega, ← HXY.out.1, ← HXY.out.2]; exact hxy
   have q1:((x:Int) == (y:Int)) = false:=by simp; omega
   have q2:decide ((x:Int) = (y:Int)) = false:=decide_eq_false (by omega)
   refine plan_look (v:=.bool false) rfl rfl (fun w0 hS => (by clear hS; go_simp; try rfl)) ?_
   simp only [Act.put,nAq,nBq,nCq]
   refine plan_look (v:=.bool false) rfl rfl (fun w0 hS => (by clear hS; go_simp; try rfl)) ?_
   simp only [Act.put,nAq,nBq,nCq]
   refine plan_end ?_; simp only [List.drop_succ_cons,List.drop_zero]
   go_wp2
   refine NoPanic.normal ?_
   go_wp2
   go_ret
   exact ⟨by rw [common_of HLA.out.1 HLA.out.2 hi HH.out.1 (.inr (by rw [← HXY.out.1, ← HXY.out.2]; exact hxy))]; rfl,A4.out.1⟩
 have he:i = 256:=by omega
 subst he
 have p1:decide (((256:Nat):Int) < 256) = false:=by decide
 go_wp2
 refine wp_region_plan (fun wz => True) 11 [(0,false),(1,false),(2,false),(3,false),(4,false),(6,false),(7,false),(5,true),(8,true),(9,false),(10,false)] (by kernel_rfl) (by kernel_rfl) ?_ ?_
 · trivial
 refine plan_look rfl rfl (fun w0 hS => (by clear hS; go_simp; try rfl)) ?_
 simp only [Act.put,nAq,nBq,nCq]
 iterate 2
  refine plan_look (v:=.bool false) rfl rfl (fun w0 hS => (by clear hS; go_simp; try rfl)) ?_
  simp only [Act.put,nAq,nBq,nCq]
 iterate 4
  refine plan_skip rfl rfl ?_
  simp only [Act.put,nAq,nBq,nCq]
 iterate 2
  refine plan_do rfl ?_
  go_wp2
  refine ⟨trivial,?_⟩
 refine plan_skip rfl rfl ?_
 simp only [Act.put,nAq,nBq,nCq]
 refine plan_look (v:=.bool false) rfl rfl (fun w0 hS => (by clear hS; go_simp; try rfl)) ?_
 simp only [Act.put,nAq,nBq,nCq]
 refine plan_end ?_; simp only [List.drop_succ_cons,List.drop_zero]
 go_wp2
 refine NoPanic.normal ?_
 go_wp2
 go_ret
 exact ⟨by rw [common_of HLA.out.1 HLA.out.2 (Nat.le_refl _) HH.out.1 (.inl rfl)]; rfl,HH.out.2.1.drew⟩
end Go.Proofs.YtmeglndnkdgkoaaGreat.Path
namespace Go.Proofs.YtmeglndnkdgkoaaGreat.Store
open Go.RowKit Go.Sort Go.Proofs.YtmeglndnkdgkoaaGreat.ShaW Go.Proofs.YtmeglndnkdgkoaaGreat.Path Go.Proofs.YtmeglndnkdgkoaaGreat.Law9
def rowFit (d:Nat) (n:Nat) (k0:List UInt8) (i:Nat) (k:List UInt8):Prop:=kbit k d = (if i < n then 0 else 1) ∧ d ≤ common k k0
theorem Rep.near {f:View} (hf:Fit f) {h:Int} {d:Nat} {t:Tr} (hr:Rep f h d t):∀ e ∈ t.ents,e.1.length = 32 ∧ Pre e.1 (ndF f h).key d ∧ h ≠ 0:=fun e he => by
 obtain ⟨h1,h2,_⟩:=hr.ents hf
 rcases hr.live with h0 | ⟨n,hn⟩
 · rw [h0] at hr; rw [hr.zero_nil hf.zero] at he; cases he
 rw [ndF_some hn]
 refine ⟨(h1 e he).1,?_,hf.ne hn⟩
 by_cases hk:n.kind = 2
 · exact (h2 n hn e he).1 hk
 rw [(h2 n hn e he).2 hk]; exact fun _ _ => rfl
theorem fits_rows {f:View} (hf:Fit f) {d:Nat} (hd:d ≤ 255) {l r:Int} {tl tr:Tr} (hl:Rep f l (d + 1) tl) (hr:Rep f r (d + 1) tr) (h0:¬ (l = 0 ∧ r = 0)) (h1:l = 0 → (ndF f r).kind = 2) (h2:r = 0 → (ndF f l).kind = 2)
 (g1:(ndF f l).kind = 2 → (ndF f l).depth = (d:Int) + 1) (g2:(ndF f r).kind = 2 → (ndF f r).depth = (d:Int) + 1) :
 fitsB d l r (ndF f l) (ndF f r) = true ↔ ∀ i e e0,(tl.ents ++ tr.ents)[i]? = some e → (tl.ents ++ tr.ents)[0]? = some e0 → rowFit d tl.ents.length e0.1 i e.1:=by
 have nl:=hl.near hf
 have nr:=hr.near hf
 have ml:=(Rep.many hf hl).1
 have mr:=(Rep.many hf hr).1
 have keyl:l ≠ 0 → (ndF f l).key.length = 32:=fun h => by
  rcases hl.live with h0 | ⟨n,hn⟩
  · exact absurd h0 h
  rw [ndF_some hn]; exact (hf.all _ _ hn).key
 have keyr:r ≠ 0 → (ndF f r).key.length = 32:=fun h => by
  rcases hr.live with h0 | ⟨n,hn⟩
  · exact absurd h0 h
  rw [ndF_some hn]; exact (hf.all _ _ hn).key
 obtain ⟨L,hL⟩:∃ L,L = ndF f l:=⟨_,rfl⟩
 obtain ⟨R,hR⟩:∃ R,R = ndF f r:=⟨_,rfl⟩
 simp only [← hL] at *
 simp only [← hR] at *
 have hd2:d < 256:=by omega
 constructor
 · intro hfit i e e0 he he0
   have bl:l ≠ 0 → kbit L.key d = 0:=fun h => by
    have:=fitB_bit (fits_l hfit h)
    rw [bit_in hd2] at this; omega
   have br:r ≠ 0 → kbit R.key d = 1:=fun h => by
    have:=fitB_bit (fits_r hfit h)
    rw [bit_in hd2] at this; omega
   have hc:l ≠ 0 → r ≠ 0 → Pre L.key R.key d:=fun a b => pre_common (keyl a) (keyr b) (by have:=fits_c hfit a b; omega)
   have hm:=List.mem_of_getElem? he
   have hm0:=List.mem_of_getElem? he0
   have pl:∀ x ∈ tl.ents,∀ y ∈ tl.ents ++ tr.ents,Pre x.1 y.1 d:=fun x hx y hy => by
    obtain ⟨a1,a2,a3⟩:=nl x hx
    rcases List.mem_append.1 hy with hy | hy
    · exact (a2.less (Nat.le_succ d)).trans ((nl y hy).2.1.less (Nat.le_succ d)).symm
    obtain ⟨b1,b2,b3⟩:=nr y hy
    exact (a2.less (Nat.le_succ d)).trans ((hc a3 b3).trans (b2.less (Nat.le_succ d)).symm)
   have pa:∀ x ∈ tl.ents ++ tr.ents,∀ y ∈ tl.ents ++ tr.ents,Pre x.1 y.1 d:=fun x hx y hy => by
    rcases List.mem_append.1 hx with hx' | hx'
    · exact pl x hx' y hy
    rcases List.mem_append.1 hy with hy' | hy'
    · exact (pl y hy' x hx).symm
    exact ((nr x hx').2.1.less (Nat.le_succ d)).trans ((nr y hy').2.1.less (Nat.le_succ d)).symm
   have len:∀ x ∈ tl.ents ++ tr.ents,x.1.length = 32:=fun x hx => (List.mem_append.1 hx).elim (fun h => (nl x h).1) (fun h => (nr x h).1)
   refine ⟨?_,le_common (len e hm) (len e0 hm0) (by omega) (pa e hm e0 hm0)⟩
   by_cases hi:i < tl.ents.length
   · rw [if_pos hi]
     rw [List.getElem?_append_left hi] at he
     obtain ⟨a1,a2,a3⟩:=nl e (List.mem_of_getElem? he)
     rw [a2 d (Nat.lt_succ_self d)]; exact bl a3
   rw [if_neg hi]
   rw [List.getElem?_append_right (by omega)] at he
   obtain ⟨a1,a2,a3⟩:=nr e (List.mem_of_getElem? he)
   rw [a2 d (Nat.lt_succ_self d)]; exact br a3
 intro hall
 have fl:l ≠ 0 → fitB L d 0 = true ∧ ∃ e0,tl.ents[0]? = some e0 ∧ (tl.ents ++ tr.ents)[0]? = some e0:=fun h => by
  have hp:=ml h
  have hg:tl.ents[0]? = some tl.ents[0]:=List.getElem?_eq_getElem hp
  have hg':(tl.ents ++ tr.ents)[0]? = some tl.ents[0]:=by rw [List.getElem?_append_left hp]; exact hg
  have hrow:=(hall 0 _ _ hg' hg').1
  rw [if_pos (show 0 < tl.ents.length from hp)] at hrow
  refine ⟨fitB_of g1 ?_,_,hg,hg'⟩
  rw [bit_in hd2, ← (nl _ (List.mem_of_getElem? hg)).2.1 d (Nat.lt_succ_self d),hrow]; rfl
 have fr:r ≠ 0 → fitB R d 1 = true ∧ ∃ e,tr.ents[0]? = some e ∧ (tl.ents ++ tr.ents)[tl.ents.length]? = some e:=fun h => by
  have hp:=mr h
  have hg:tr.ents[0]? = some tr.ents[0]:=List.getElem?_eq_getElem hp
  have hg':(tl.ents ++ tr.ents)[tl.ents.length]? = some tr.ents[0]:=by rw [List.getElem?_append_right (Nat.le_refl _),Nat.sub_self]; exact hg
  have h00:∃ e0,(tl.ents ++ tr.ents)[0]? = some e0:=by
   refine ⟨(tl.ents ++ tr.ents)[0]'(by rw [List.length_append]; omega),List.getElem?_eq_getElem _⟩
  obtain ⟨e0,he0⟩:=h00
  have hrow:=(hall _ _ _ hg' he0).1
  rw [if_neg (Nat.lt_irrefl _)] at hrow
  refine ⟨fitB_of g2 ?_,_,hg,hg'⟩
  rw [bit_in hd2, ← (nr _ (List.mem_of_getElem? hg)).2.1 d (Nat.lt_succ_self d),hrow]; rfl
 unfold fitsB
 by_cases hl0:l = 0
 · have hr0:r ≠ 0:=fun h => h0 ⟨hl0,h⟩
   rw [if_pos hl0,if_neg hr0,(fr hr0).1,decide_eq_true (h1 hl0)]; rfl
 rw [if_neg hl0]
 by_cases hr0:r = 0
 · rw [if_pos hr0,(fl hl0).1,decide_eq_true (h2 hr0)]; rfl
 obtain ⟨a1,e0,a2,a3⟩:=fl hl0
 obtain ⟨b1,e,b2,b3⟩:=fr hr0
 have hc:=(hall _ _ _ b3 a3).2
 have m1:=nr e (List.mem_of_getElem? b2)
 have m0:=nl e0 (List.mem_of_getElem? a2)
 have hp:=pre_common m1.1 m0.1 hc
 have:d ≤ common L.key R.key:=le_common (keyl hl0) (keyr hr0) (by omega) (((m0.2.1.less (Nat.le_succ d)).symm.trans hp.symm).trans (m1.2.1.less (Nat.le_succ d)))
 rw [if_neg hr0,a1,b1,decide_eq_true (by omega)]; rfl
end Go.Proofs.YtmeglndnkdgkoaaGreat.Store

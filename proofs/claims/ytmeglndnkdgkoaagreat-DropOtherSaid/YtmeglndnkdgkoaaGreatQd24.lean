/- Proved contracts and plain laws of the layers below, in one text. -/
import Derived.Test.YtmeglndnkdgkoaaGreatQd23
import Derived.ProofKit
import Derived.OpenShut
import Derived.ChangeOld
import Derived.Deep.Slices
set_option maxHeartbeats 3200000
set_option maxRecDepth 100000
set_option linter.unusedVariables false
namespace Go.Proofs.YtmeglndnkdgkoaaGreat.Store
open Go Go.RowKit Go.Proofs.YtmeglndnkdgkoaaGreat Go.Proofs.YtmeglndnkdgkoaaGreat.ShaW Go.Proofs.YtmeglndnkdgkoaaGreat.Path
def Sp.held (x:Sp):Sp := { x with own:=1 }
def Rs.take (ρ:Rs) (x:Sp):Int × Rs:=match ρ.free.getLast? with
 | some n => (n, { ρ with spots:=ρ.spots.set (n - 1) x.held,free:=ρ.free.dropLast })
 | none => ((ρ.spots.length:Int) + 1, { ρ with spots:=ρ.spots ++ [x.held] })
theorem at_worldF {P:Program} {C:Code} {Q:Exit → Act → World → Prop} {a:Act} {w:World} (h:∀ w0,w0 = w → C.wp P Q a w0):C.wp P Q a w:=h w rfl
section
variable {w w' : World} {b : Nat} {F : Nat → Prop} {ρ : Rs}
theorem RAt.row (h:RAt w b F ρ):∃ vs vf,w.heap[b]? = some (.cells #[.bool true,.int .i64 (ρ.space:Nat),vs,vf] 126 (0,0)) ∧
 w.ownsRow 0 198 39 vs ρ.spots.length (flatA (ρ.spots.map Sp.cells)) ∧ w.ownsRow 0 3 1 vf ρ.free.length (ints ρ.free):=by
 obtain ⟨_,vs,vf,h1,h2,h3,_⟩:=h
 exact ⟨vs,vf,h1,h2,h3⟩
theorem RTake_reuse (h:RAt w b F ρ) (x:Sp) (hx:x.Ok) (hsd:0 ≤ x.sides ∧ x.sides ≤ 2147483648) (hbv:Bytes w x.addr x.value) (hnb:∀ k,x.addr.ownBlock = some k → ¬ F k ∧ k < w.heap.size) {fr:List Nat} {k:Nat} (hf:ρ.free = fr ++ [k + 1]) :
 Calls Tryz.prog 135 #[.pointer (some ⟨b,0,none⟩),.agg x.cells] w fun e w' => e = .returned (.int .i64 ((k:Int) + 1)) ∧ RMoved w w' b (fun j => F j ∨ x.addr.ownBlock = some j) { ρ with spots:=ρ.spots.set k x.held,free:=fr }:=by
 have hfine:=h.1
 obtain ⟨h0,vs,vf,h1,h2,h3,h4,h5,h6,h7,h8⟩:=h
 have hk1:=hfine.free (k + 1) (by rw [hf]; simp)
 have hkl:k < ρ.spots.length:=by omega
 have hfl:ρ.free.length = fr.length + 1:=by rw [hf]; simp
 have hll:=hfine.len
 have hsp:=hfine.space
 have hffl:=hfine.flen
 obtain ⟨g,cap,cur,rfl,hg,hc1,hc2,hc3,hc4⟩:=owns_block h2 (by omega)
 obtain ⟨fg,gb⟩:=h6 g rfl
 rw [hfl] at h3
 obtain ⟨f,fcap,curf,rfl,hF,q1,q2,q3,q4⟩:=owns_block h3 (by omega)
 obtain ⟨ff,fb,fgn⟩:=h7 f rfl
 have hgf:g ≠ f:=fun e => fgn (by rw [e]; rfl)
 have hfc:w.cell? ⟨f,fr.length,none⟩ = some (.int .i64 ((k:Int) + 1)):=row_cell hF (take_get q4 (by rw [hf]; simp [ints]))
 have hlg:=row_lt hg
 have hlf:=row_lt hF
 have hlb:=row_lt h1
 have hsz:∀ a ∈ ρ.spots.map Sp.cells,a.size = 39:=fun a ha => by
  obtain ⟨z,hz,rfl⟩:=List.mem_map.1 ha
  exact Sp.cells_size (h0.nums z hz).1
 have hxo:x.held.Ok:=⟨hx.key,hx.addr,hx.val⟩
 obtain ⟨X0,hX0⟩:∃ X,X = x.cells:=⟨_,rfl⟩
 obtain ⟨X,hX⟩:∃ X,X = x.held.cells:=⟨_,rfl⟩
 have hXe:X0.setIfInBounds 37 (.int .i64 1) = X:=by rw [hX0,hX]; exact Sp.set_own hx 1
 have hXs:X.size = 39 ∧ ∀ v ∈ X.toList,v.oneCell' = true:=by rw [hX]; exact ⟨Sp.cells_size hxo,Sp.cells_one hxo⟩
 have hX0s:X0.size = 39:=by rw [hX0]; exact Sp.cells_size hx
 have hle:(k + 1) * 39 ≤ ρ.spots.length * 39:=Nat.mul_le_mul_right _ hkl
 have hkc:ρ.spots.length * 39 ≤ cur.size:=by rw [hc3]; exact Nat.mul_le_mul_right _ hc1
 have hkk:k * 39 + 39 ≤ ρ.spots.length * 39:=by omega
 obtain ⟨new,HN⟩:∃ new,Hid ((splice cur.toList (k * 39) X.toList).toArray = new):=⟨_,rfl⟩
 have HT:Hid (new.toList.take (ρ.spots.length * 39) = flatA ((ρ.spots.set k x.held).map Sp.cells)):=by
  show _ = _
  rw [← HN.out]
  have e1:=take_splice hc4 hkc (off:=k * 39) (v:=X.toList) (by rw [Array.length_toList,hXs.1]; omega)
  have e2:=flatA_splice hsz (i:=k) (by simpa using hkl) hXs.1
  rw [e2,hX, ← List.map_set] at e1
  rw [hX]
  exact e1
 have HS:Hid (new.size = cur.size):=by
  show _ = _
  rw [← HN.out]
  have:=splice_length cur.toList (k * 39) X.toList (by rw [Array.length_toList,hXs.1,Array.length_toList]; omega)
  simpa using this
 have HFit:Hid (k * 39 + X.size ≤ cur.size):=by show _ ≤ _; rw [hXs.1]; omega
 have HQ:Hid (curf.toList.take (fr.length * 1) = ints fr):=by
  show _ = _
  have:=congrArg (List.take (fr.length * 1)) q4
  rw [List.take_take,Nat.min_eq_left (by omega),hf] at this
  rw [this]
  simp [ints]
 have c2:=row_cell h1 (i:=2) rfl
 have c3:=row_cell h1 (i:=3) rfl
 have f3:=row_free h1 3
 have HX:=(hIq hXs (aIq hX0s hXe))
 have HFR:=Lib.hid hf
 have E1:=Lib.hid h1
 have E2:=Lib.hid hg
 have EF:=Lib.hid hF
 have HR:=(hIq h0 (aIq h4 (aIq h5 (aIq h6 (aIq h7 h8)))))
 have HB:=(hIq hbv (aIq hnb (aIq hxo hsd)))
 have HC:=(hIq hc1 (aIq hc2 (aIq hc3 (aIq q1 (aIq q2 (aIq q3 (aIq fg (aIq ff (aIq hfl hX)))))))))
 have hbw:b ≠ w.heap.size:=by omega
 have hfw:f ≠ w.heap.size:=by omega
 have hgw:g ≠ w.heap.size:=by omega
 have hml:k ≤ 65535:=by omega
 have hfr:fr.length ≤ 65535:=by omega
 have hfc9:fr.length ≤ fcap:=by omega
 obtain ⟨L,hL⟩:∃ L,L = ρ.spots.length:=⟨_,rfl⟩
 rw [← hL] at c2 hkl
 have HLL:=Lib.hid hL
 rw [← hX0]
 have hwk:IntKind.i64.wrap (k:Int) = k:=IntWalk.i64_in _ (by omega)
 have hwf:IntKind.i64.wrap (fr.length:Int) = fr.length:=IntWalk.i64_in _ (by omega)
 have hr0:(w.alloc (.cells X0 198)).heap[w.heap.size]? = some (.cells X0 198 (0,0)):=heap_alloc_new _ _
 have hfr0:=row_free hr0 37
 have hc37:=row_cell hr0 (i:=37) (v:=.int .i64 x.own) (by rw [hX0]; exact Sp.at_own hx)
 have hlr0:=row_lt hr0
 clear hfine h0 h1 h2 h3 h4 h5 h6 h7 h8 hg hF hk1 hfl hll hsp hffl hc1 hc2 hc3 hc4 q1 q2 q3 q4 hsz hxo hX hXe hXs hX0s hle hkc hkk hbv hnb hsd hx hX0 hf hL hr0
 go_enter Tryz.func135,Tryz.ntmps135
 go_upto_region 2 with fail
 refine at_worldF (fun w1 hw1 => ?_)
 have aw:Adds w w1:=by rw [hw1]; exact (Ch.refl _ w).alloc _
 have e1:=aw.row E1.out id
 have e2:=aw.row E2.out id
 have eF:=aw.row EF.out id
 have eX:w1.heap[w.heap.size]? = some (.cells X 198 (0,0)):=by
  rw [hw1, ← HX.out.2.2]
  exact heap_alloc_new w _
 have hs1:w1.heap.size = w.heap.size + 1:=by rw [hw1]; simp
 obtain ⟨B,hB⟩:∃ B,B = w.heap.size:=⟨_,rfl⟩
 rw [← hB] at eX hbw hfw hgw hs1 hlg hlf hlb ⊢
 have hfc1:=aw.cell hfc id
 clear c2 c3 f3 hfr0 hlr0 hfc hw1 hc37
 have c2:=row_cell e1 (i:=2) rfl
 have c3:=row_cell e1 (i:=3) rfl
 have f3:=row_free e1 3
 have l1:=row_lt e1
 have W1:=(hIq aw (aIq e1 (aIq e2 (aIq eF (aIq eX (aIq hs1 hB))))))
 clear aw e1 e2 eF eX hs1 hB
 go_wp2
 go_quiet (fail)
 obtain ⟨w2,hw2⟩:∃ w2,w2 = w1.drewN nq:=⟨_,rfl⟩
 rw [← hw2]
 have a2:Adds w1 w2:=by rw [hw2]; exact (Ch.refl _ _).drewN _
 clear c2 c3 f3 l1 hfc1 hw2
 have W2:=(hIq (W1.out.1.trans a2 (fun _ => fEq)) (aIq (a2.row W1.out.2.1 id) (aIq (a2.row W1.out.2.2.1 id) (aIq (a2.row W1.out.2.2.2.1 id) (aIq (a2.row W1.out.2.2.2.2.1 id) (W1.out.2.2.2.2.2.2))))))
 clear a2 W1
 have c2:=row_cell W2.out.2.1 (i:=2) rfl
 have c3:=row_cell W2.out.2.1 (i:=3) rfl
 have f3:=row_free W2.out.2.1 3
 have l1:=row_lt W2.out.2.1
 go_wp2
 refine wp_region_plan (fun w0 => w0 = (w2).drew) 12 [(0,false),(1,false),(2,false),(3,false),(4,false),(5,false),(6,false),(7,false),(8,false),(9,false),(10,false),(11,false)] (by kernel_rfl) (by kernel_rfl) rfl ?_
 iterate 12 refine plan_look rfl rfl (fun w0 hS => (by subst hS; go_simp; try rfl)) ?_
 refine plan_end ?_
 simp only [List.drop_succ_cons,List.drop_zero,Act.put,List.setIfInBounds_toArray,List.set_cons_succ,List.set_cons_zero]
 go_wp2
 refine NoPanic.normal ?_
 obtain ⟨w3,hw3⟩:∃ w3,w3 = (w2.setCell ⟨b,3,none⟩ (.slice (some ⟨f,0,none⟩) fr.length fcap)).drew:=⟨_,rfl⟩
 rw [← hw3]
 have hc3:Ch (fun j => j = b) w2 w3:=by rw [hw3]; exact ((Ch.refl (fun j => j = b) w2).setCell (p:=⟨b,3,none⟩) (.inl rfl) _).drew
 have r3b:w3.heap[b]? = some (.cells #[.bool true,.int .i64 (ρ.space:Nat),.slice (some ⟨g,0,none⟩) ρ.spots.length cap,.slice (some ⟨f,0,none⟩) fr.length fcap] 126 (0,0)):=by rw [hw3]; exact row_drew (row_set_same W2.out.2.1 3 _)
 have r3g:=hc3.row W2.out.2.2.1 gb
 have r3f:=hc3.row W2.out.2.2.2.1 fb
 have r3x:=hc3.row W2.out.2.2.2.2.1 (Ne.symm hbw)
 have W3:=(hIq ((W2.out.1.mono (G:=fun j => j = b) (fun _ _ h => h.elim)).trans hc3 (fun j hj => .inl hj)) (aIq r3b (aIq r3g (aIq r3f r3x))))
 clear c2 c3 f3 l1 hw3 hc3 r3b r3g r3f r3x W2
 have c2:=row_cell W3.out.2.1 (i:=2) rfl
 rw [← HLL.out] at c2
 go_wp2
 refine wp_region_plan (fun w0 => w0 = w3.drew) 7 [(0,false),(1,false),(2,false),(3,false),(4,false),(5,false),(6,false)] (by kernel_rfl) (by kernel_rfl) rfl ?_
 iterate 6 refine plan_look rfl rfl (fun w0 hS => (by subst hS; go_simp; try rfl)) ?_
 simp only [Act.put,nAq,nBq,nCq]
 refine plan_load_part (cur:=X) (t:=198) (fr:=(0,0)) rfl rfl 198 (.tmp 3) rfl B 0 39 rfl (fun w0 hS => by subst hS; exact row_drew W3.out.2.2.2.2) Tryz.underlying198 rfl sizeSp (by rw [HX.out.1.1]; omega) X (by have:=HX.out.1.1; simp [← this]) ?_
 refine plan_end ?_
 simp only [List.drop_succ_cons,List.drop_zero,Act.put,List.setIfInBounds_toArray,List.set_cons_succ,List.set_cons_zero]
 go_wp2_with (first
  | fail
  | ((with_reducible show zOq (.store 198 _ _)); refine wpList_store_part rfl 198 _ _ rfl g (k * 39) X rfl rfl (row_drew W3.out.2.2.1) (by rw [sizeSp,HX.out.1.1]) HFit.out HX.out.1.2 new HN.out ?_))
 refine NoPanic.normal ?_
 go_wp2
 go_ret
 have hCh:Ch (fun j => j = b ∨ j = g) w (w3.drew.setRow g new):=((W3.out.1.mono (G:=fun j => j = b ∨ j = g) (fun _ _ h => .inl h)).drew).setRow (.inl (.inr rfl)) new
 have hb5:=row_setRow (row_drew W3.out.2.1) (Ne.symm gb) new
 have hg5:=row_setRow_same (row_drew W3.out.2.2.1) new
 have hf5:=row_setRow (row_drew W3.out.2.2.2.1) (Ne.symm hgf) new
 obtain ⟨z0,z4,z5,z6,z7,z8⟩:=HR.out
 obtain ⟨y1,y2,y3,y4⟩:=HB.out
 obtain ⟨x1,x2,x3,x4,x5,x6,x7,x8,x9,x10⟩:=HC.out
 refine ⟨rfl,fun j => F j ∨ x.addr.ownBlock = some j,⟨⟨z0.space,by show (ρ.spots.set k x.held).length ≤ _; rw [List.length_set]; exact z0.len,fun n hn => ?_,?_,fun z hz => ?_⟩,_,_,hb5,?_,?_,fun z hz => ?_,.inl z5,fun j hj => ⟨.inl (z6 j hj).1,(z6 j hj).2⟩,fun j hj => ?_,fun j hj => ?_⟩,hCh.mono ?_,fun j hj => .inl hj⟩
 · show 1 ≤ n ∧ n ≤ (ρ.spots.set k x.held).length
   rw [List.length_set]
   exact z0.free n (by rw [HFR.out]; exact List.mem_append_left _ hn)
 · show fr.length ≤ (ρ.spots.set k x.held).length
   rw [List.length_set]
   have:=z0.flen
   omega
 · rcases List.mem_or_eq_of_mem_set hz with hz | rfl
   · exact z0.nums z hz
   exact ⟨y3,⟨by show (0:Int) ≤ 1; decide,by show (1:Int) ≤ 2147483648; decide⟩,y4⟩
 · show World.ownsRow _ 0 _ 39 _ (ρ.spots.set k x.held).length _
   rw [List.length_set]
   exact owns_mk' hg5 x1 x2 (by rw [HS.out]; exact x3) HT.out
 · exact owns_mk' hf5 (Nat.le_of_succ_le x4) x5 x6 HQ.out
 · rcases List.mem_or_eq_of_mem_set hz with hz | rfl
   · obtain ⟨u1,u2⟩:=z4 z hz
     refine ⟨u1.keep hCh (fun j hj e => ?_),fun j hj => ⟨.inl (u2 j hj).1,(u2 j hj).2.1,?_,(u2 j hj).2.2.2⟩⟩
     · rcases e with rfl | rfl
       · exact (u2 _ hj).2.1 rfl
       exact (u2 _ hj).2.2.1 rfl
     exact (u2 j hj).2.2.1
   refine ⟨y1.keep hCh (fun j hj e => ?_),fun j hj => ⟨.inr hj,fun e => (y2 j hj).1 (e ▸ z5),fun e => ?_,fun e => ?_⟩⟩
   · rcases e with rfl | rfl
     · exact (y2 _ hj).1 z5
     exact (y2 _ hj).1 x7
   · simp only [Value.ownBlock,Option.some.injEq] at e
     exact (y2 j hj).1 (e ▸ x7)
   simp only [Value.ownBlock,Option.some.injEq] at e
   exact (y2 j hj).1 (e ▸ x8)
 · obtain ⟨v1,v2,v3⟩:=z7 j hj
   exact ⟨.inl v1,v2,v3⟩
 · have hs:=hCh.size
   rcases hj with hj | hj
   · exact Nat.lt_of_lt_of_le (z8 j hj) hs
   exact Nat.lt_of_lt_of_le (y2 j hj).2 hs
 rintro j hj (rfl | rfl)
 · exact .inl z5
 exact .inl x7
theorem spot_info:∃ i z,Tryz.prog.info? 198 = some i ∧ i.zero = some z ∧ i.size = 39 ∧ i.bytes ≤ 4096 ∧ z.cells.size = 39:=by
 obtain ⟨i,h1,h2⟩:=Option.map_eq_some_iff.1 (by kernel_rfl:(Tryz.prog.info? 198).map (fun i => (i.size,decide (i.bytes ≤ 4096),i.zero.map (fun z => z.cells.size))) = some (39,true,some 39))
 simp only [Prod.mk.injEq,Option.map_eq_some_iff,decide_eq_true_eq] at h2
 obtain ⟨h2,h3,z,h4,h5⟩:=h2
 exact ⟨i,z,h1,h4,h2,h3,h5⟩
theorem RTake_push (h:RAt w b F ρ) (x:Sp) (hx:x.Ok) (hsd:0 ≤ x.sides ∧ x.sides ≤ 2147483648) (hbv:Bytes w x.addr x.value) (hnb:∀ k,x.addr.ownBlock = some k → ¬ F k ∧ k < w.heap.size) (hf:ρ.free = []) (hroom:ρ.spots.length < ρ.space) :
 Calls Tryz.prog 135 #[.pointer (some ⟨b,0,none⟩),.agg x.cells] w fun e w' => e = .returned (.int .i64 ((ρ.spots.length:Int) + 1)) ∧ RMoved w w' b (fun j => F j ∨ x.addr.ownBlock = some j) { ρ with spots:=ρ.spots ++ [x.held] }:=by
 have hfine:=h.1
 obtain ⟨h0,vs,vf,h1,h2,h3,h4,h5,h6,h7,h8⟩:=h
 have hll:=hfine.len
 have hsp:=hfine.space
 obtain ⟨ao,cap,rfl⟩:=owns_form h2
 have hfl:ρ.free.length = 0:=by rw [hf]; rfl
 have h3':=h3
 rw [hfl] at h3'
 obtain ⟨af,fcap,rfl⟩:=owns_form h3'
 have hlb:=row_lt h1
 have hxo:x.held.Ok:=⟨hx.key,hx.addr,hx.val⟩
 obtain ⟨X0,hX0⟩:∃ X,X = x.cells:=⟨_,rfl⟩
 obtain ⟨X,hX⟩:∃ X,X = x.held.cells:=⟨_,rfl⟩
 have hXe:X0.setIfInBounds 37 (.int .i64 1) = X:=by rw [hX0,hX]; exact Sp.set_own hx 1
 have hXs:X.size = 39 ∧ ∀ v ∈ X.toList,v.oneCell' = true:=by rw [hX]; exact ⟨Sp.cells_size hxo,Sp.cells_one hxo⟩
 obtain ⟨i0,z0,p1,p2,p3,p4,p5⟩:=spot_info
 have HI:=(hIq p1 (aIq p2 (aIq p3 (aIq p4 p5))))
 have HBY:Hid ((ρ.spots.length + 1) * i0.bytes ≤ 140737488355328):=by
  show _ ≤ _
  have:(ρ.spots.length + 1) * i0.bytes ≤ 65537 * 4096:=Nat.mul_le_mul (by omega) p4
  omega
 have HSM:Hid (i0.size ≤ 65536 ∧ 0 < i0.size):=by show _ ∧ _; rw [p3]; omega
 have HCS:Hid ((Value.agg X).cells.size = i0.size):=by show _ = _; rw [p3]; exact hXs.1
 have HFL:Hid (flatA (ρ.spots.map Sp.cells) ++ X.toList = flatA ((ρ.spots ++ [x.held]).map Sp.cells)):=by show _ = _; rw [List.map_append,flatA_append,List.map_cons,List.map_nil,flatA_one,hX]
 have HLN:Hid (X.toList.length = 1 * 39):=by show _ = _; rw [Array.length_toList,hXs.1]
 have c3:=row_cell h1 (i:=3) rfl
 have HX:=(hIq hXs hXe)
 have E1:=Lib.hid h1
 have HO:=(hIq h2 h3)
 have HR:=(hIq h0 (aIq h4 (aIq h5 (aIq h6 (aIq h7 h8)))))
 have HB:=(hIq hbv (aIq hnb (aIq hxo hsd)))
 have HFR:=(hIq hf hroom)
 have hbw:b ≠ w.heap.size:=by omega
 obtain ⟨L,hL⟩:∃ L,L = ρ.spots.length:=⟨_,rfl⟩
 have HLL:=Lib.hid hL
 have hL6:L ≤ 65536:=by omega
 rw [← hX0]
 have hr0:(w.alloc (.cells X0 198)).heap[w.heap.size]? = some (.cells X0 198 (0,0)):=heap_alloc_new _ _
 have hfr0:=row_free hr0 37
 have hc37:=row_cell hr0 (i:=37) (v:=.int .i64 x.own) (by rw [hX0]; exact Sp.at_own hx)
 have hlr0:=row_lt hr0
 rw [← hL]
 rw [← hL] at E1 HO HBY HR
 clear hfine h0 h1 h2 h3 h3' h4 h5 h6 h7 h8 hfl hll hsp hxo hX hXe hXs p1 p2 p3 p4 p5 hbv hnb hsd hx hX0 hf hroom hL hr0
 go_enter Tryz.func135,Tryz.ntmps135
 go_upto_region 2 with fail
 refine at_worldF (fun w1 hw1 => ?_)
 have aw:Adds w w1:=by rw [hw1]; exact (Ch.refl _ w).alloc _
 have e1:=aw.row E1.out id
 have eX:w1.heap[w.heap.size]? = some (.cells X 198 (0,0)):=by
  rw [hw1, ← HX.out.2]
  exact heap_alloc_new w _
 have hs1:w1.heap.size = w.heap.size + 1:=by rw [hw1]; simp
 obtain ⟨B,hB⟩:∃ B,B = w.heap.size:=⟨_,rfl⟩
 rw [← hB] at eX hbw hs1 hlb ⊢
 clear c3 hfr0 hlr0 hw1 hc37
 have c2:=row_cell e1 (i:=2) rfl
 have c3:=row_cell e1 (i:=3) rfl
 have l1:=row_lt e1
 have W1:=(hIq aw (aIq e1 (aIq eX (aIq hs1 hB))))
 clear aw e1 eX hs1 hB
 go_wp2
 refine wp_region_plan (fun w' => w'.cell? ⟨b,2,none⟩ = some (.slice ao L cap) ∧ w'.heap[B]? = some (.cells X 198 (0,0))) 8 [(0,false),(1,false),(2,false),(3,false),(4,false),(5,false),(6,true),(7,true)] (by kernel_rfl) (by kernel_rfl) ?_ ?_
 · exact ⟨row_cell (row_drew W1.out.2.1) (i:=2) rfl,row_drew W1.out.2.2.1⟩
 iterate 5 refine plan_look rfl rfl (fun w0 hS => (by obtain ⟨s1,s2⟩:=hS; clear s2; go_simp; try rfl)) ?_
 simp only [Act.put,nAq,nBq,nCq]
 refine plan_load_part (cur:=X) (t:=198) (fr:=(0,0)) rfl rfl 198 (.tmp 3) rfl B 0 39 rfl (fun w0 hS => hS.2) Tryz.underlying198 rfl sizeSp (by rw [HX.out.1.1]; omega) X (by have:=HX.out.1.1; simp [← this]) ?_
 simp only [Act.put,nAq,nBq,nCq]
 refine plan_do rfl ?_
 refine wpList_buildSlice_one rfl 124 (.tmp 53) rfl 198 i0 z0 (.agg X) rfl Tryz.underlying124 HI.out.1 HI.out.2.1 HSM.out.1 HSM.out.2 HCS.out ?_
 refine wpList_nil ?_
 change _ ∧ _
 refine ⟨⟨row_cell (row_alloc (row_drew W1.out.2.1) _) (i:=2) rfl,row_alloc (row_drew W1.out.2.2.1) _⟩,?_⟩
 simp only [Act.put,nAq,nBq,nCq]
 refine plan_do rfl ?_
 refine wpList_append_mine rfl (.tmp 52) (.tmp 54) 124 rfl 198 i0 z0 39 i0.bytes Tryz.underlying124 HI.out.1 HI.out.2.1 HI.out.2.2.1 rfl HI.out.2.2.2.2 (by decide) (.slice ao L cap) L (flatA (ρ.spots.map Sp.cells)) rfl ((W1.out.1.trans ((Ch.refl (fun _ => False) w1).drew.alloc _) (fun _ => fEq)).owns HO.out.1 (fun _ _ h => h)) _ 1 1 X.toList rfl HLN.out (row_news (cs:=X) (t:=198) (fr:=(0,0)) (heap_alloc_at _ _ _ (by simp))) HX.out.1.2 (by unfold maxLen; omega) HBY.out ?_
 intro v0 w4 own' grow' ob'
 obtain ⟨ro,rc,rfl⟩:=owns_form own'
 have CH:Ch (fun j => (Value.slice ao L cap).ownBlock = some j) w w4:=((W1.out.1.mono (G:=fun j => (Value.slice ao L cap).ownBlock = some j) (fun _ _ h => h.elim)).drew.alloc _).grown grow' (fun j hj => .inl hj)
 have hnb':¬ (Value.slice ao L cap).ownBlock = some b:=fun e => (HR.out.2.2.2.1 b e).2 rfl
 have hnB':¬ (Value.slice ao L cap).ownBlock = some B:=fun e => by
  have h1:=(HR.out.2.2.2.1 B e).1
  have h2:=HR.out.2.2.2.2.2 B h1
  have h3:=W1.out.2.2.2.2
  omega
 have r4b:=CH.row E1.out hnb'
 have r4B:w4.heap[B]? = some (.cells X 198 (0,0)):=(grow'.block B (by have h1:=W1.out.2.2.2.1; rw [World.size_alloc]; have h2:w1.drew.heap.size = w1.heap.size:=rfl; have h3:=W1.out.2.2.2.2; omega) (fun e => hnB' e.symm)).trans (row_alloc (row_drew W1.out.2.2.1) _)
 have hsz4:w.heap.size + 1 ≤ w4.heap.size:=by have h1:=grow'.size; rw [World.size_alloc] at h1; have h2:w1.drew.heap.size = w1.heap.size:=rfl; have:=W1.out.2.2.2.1; have:=W1.out.2.2.2.2; omega
 have OB:Hid ((Value.slice ro (L + 1) rc).ownBlock = (Value.slice ao L cap).ownBlock ∨ ∀ j,(Value.slice ro (L + 1) rc).ownBlock = some j → w.heap.size ≤ j):=Lib.hid (ob'.imp id (fun h j hj => by have h1:=h j hj; rw [World.size_alloc] at h1; have h2:w1.drew.heap.size = w1.heap.size:=rfl; have:=W1.out.2.2.2.1; have:=W1.out.2.2.2.2; omega))
 have H4:=(hIq own' (aIq CH (aIq r4b (aIq hsz4 (aIq hnb' hnB')))))
 clear c2 c3 l1
 have c2:=row_cell r4b (i:=2) rfl
 have f2:=row_free r4b 2
 have l4:=row_lt r4b
 refine wpList_nil ?_
 change _ ∧ _
 refine ⟨⟨c2,r4B⟩,?_⟩
 clear own' CH hnb' hnB' r4b r4B hsz4 grow' ob'
 refine plan_end ?_
 simp only [List.drop_succ_cons,List.drop_zero,Act.put,List.setIfInBounds_toArray,List.set_cons_succ,List.set_cons_zero]
 go_wp2
 refine NoPanic.normal ?_
 go_wp2
 go_ret
 obtain ⟨own',CH,r4b,hsz4,hnb',hnB'⟩:=H4.out
 obtain ⟨z0,z4,z5,z6,z7,z8⟩:=HR.out
 obtain ⟨y1,y2,y3,y4⟩:=HB.out
 have hb5:=row_set_same r4b 2 (.slice ro (L + 1) rc)
 have hne:∀ j,(Value.slice ro (L + 1) rc).ownBlock = some j → j ≠ b ∧ (F j ∨ w.heap.size ≤ j) ∧ (Value.slice af 0 fcap).ownBlock ≠ some j ∧ x.addr.ownBlock ≠ some j:=fun j hj => by
  rcases OB.out with e | e
  · rw [e] at hj
    exact ⟨(z6 j hj).2,.inl (z6 j hj).1,fun h => (z7 j h).2.2 hj,fun h => (y2 j h).1 (z6 j hj).1⟩
  have h1:=e j hj
  have hbs:=z8 b z5
  exact ⟨by omega,.inr h1,fun h => by have:=z8 j (z7 j h).1; omega,fun h => by have:=(y2 j h).2; omega⟩
 have hC5:Ch (fun j => j = b ∨ (Value.slice ao L cap).ownBlock = some j) w (w4.setCell ⟨b,2,none⟩ (.slice ro (L + 1) rc)):=(CH.mono (G:=fun j => j = b ∨ (Value.slice ao L cap).ownBlock = some j) (fun _ _ h => .inr h)).setCell (p:=⟨b,2,none⟩) (.inl (.inl rfl)) _
 have hs5:(w4.setCell ⟨b,2,none⟩ (.slice ro (L + 1) rc)).heap.size = w4.heap.size:=by simp
 refine ⟨rfl,fun j => (F j ∨ x.addr.ownBlock = some j) ∨ (w.heap.size ≤ j ∧ j < w4.heap.size),⟨⟨z0.space,by show (ρ.spots ++ [x.held]).length ≤ ρ.space; rw [List.length_append,List.length_singleton]; have:=HFR.out.2; omega,fun n hn => ?_,?_,fun z hz => ?_⟩,.slice ro (L + 1) rc,.slice af 0 fcap,hb5,?_,?_,fun z hz => ?_,.inl (.inl z5),fun j hj => ?_,fun j hj => ?_,fun j hj => ?_⟩,hC5.mono ?_,fun j hj => hj.imp id (fun h => h.1)⟩
 · exfalso
   rw [show ({ ρ with spots:=ρ.spots ++ [x.held] }:Rs).free = ρ.free from rfl,HFR.out.1] at hn
   cases hn
 · show ρ.free.length ≤ _
   rw [HFR.out.1]; exact Nat.zero_le _
 · rcases List.mem_append.1 hz with hz | hz
   · exact z0.nums z hz
   rw [List.mem_singleton] at hz
   subst hz
   exact ⟨y3,⟨by show (0:Int) ≤ 1; decide,by show (1:Int) ≤ 2147483648; decide⟩,y4⟩
 · show World.ownsRow _ 0 _ 39 _ (ρ.spots ++ [x.held]).length (flatA ((ρ.spots ++ [x.held]).map Sp.cells))
   rw [List.length_append,List.length_singleton, ← HLL.out, ← HFL.out]
   exact ((Ch.refl (fun j => j = b) w4).setCell (p:=⟨b,2,none⟩) (.inl rfl) _).owns own' (fun j hj e => (hne j hj).1 e)
 · exact hC5.owns HO.out.2 (fun j hj e => by
    have hj':(Value.slice af 0 fcap).ownBlock = some j:=hj
    rcases e with rfl | e
    · exact (z7 _ hj').2.1 rfl
    exact (z7 _ hj').2.2 e)
 · rcases List.mem_append.1 hz with hz | hz
   · obtain ⟨u1,u2⟩:=z4 z hz
     refine ⟨u1.keep hC5 (fun j hj e => ?_),fun j hj => ⟨.inl (.inl (u2 j hj).1),(u2 j hj).2.1,fun e => ?_,(u2 j hj).2.2.2⟩⟩
     · rcases e with rfl | e
       · exact (u2 _ hj).2.1 rfl
       exact (u2 _ hj).2.2.1 e
     rcases OB.out with e' | e'
     · rw [e'] at e; exact (u2 j hj).2.2.1 e
     have:=e' j e; have:=z8 j (u2 j hj).1; omega
   rw [List.mem_singleton] at hz
   subst hz
   refine ⟨y1.keep hC5 (fun j hj e => ?_),fun j hj => ⟨.inl (.inr hj),fun e => (y2 j hj).1 (e ▸ z5),fun e => (hne j e).2.2.2 hj,fun e => (y2 j hj).1 (z7 j e).1⟩⟩
   rcases e with rfl | e
   · exact (y2 _ hj).1 z5
   exact (y2 _ hj).1 (z6 _ e).1
 · obtain ⟨q1,q2,q3,q4⟩:=hne j hj
   refine ⟨?_,q1⟩
   rcases q2 with q2 | q2
   · exact .inl (.inl q2)
   exact .inr ⟨q2,(own'.lt j hj).2⟩
 · obtain ⟨v1,v2,v3⟩:=z7 j hj
   exact ⟨.inl (.inl v1),v2,fun e => (hne j e).2.2.1 hj⟩
 · rw [hs5]
   rcases hj with (hj | hj) | hj
   · have:=z8 j hj; omega
   · have:=(y2 j hj).2; omega
   exact hj.2
 rintro j hj (rfl | e)
 · exact .inl z5
 exact .inl (z6 j e).1
theorem RTake_ok (h:RAt w b F ρ) (x:Sp) (hx:x.Ok) (hsd:0 ≤ x.sides ∧ x.sides ≤ 2147483648) (hbv:Bytes w x.addr x.value) (hnb:∀ k,x.addr.ownBlock = some k → ¬ F k ∧ k < w.heap.size) (hfull:ρ.fullB = false) :
 Calls Tryz.prog 135 #[.pointer (some ⟨b,0,none⟩),.agg x.cells] w fun e w' => e = .returned (.int .i64 (ρ.take x).1) ∧ RMoved w w' b (fun j => F j ∨ x.addr.ownBlock = some j) (ρ.take x).2:=by
 unfold Rs.take
 cases hg:ρ.free.getLast? with
 | none =>
  have hf:ρ.free = []:=by simpa using hg
  have hr:ρ.spots.length < ρ.space:=by
   unfold Rs.fullB at hfull
   rw [hf] at hfull
   simpa using hfull
  exact RTake_push h x hx hsd hbv hnb hf hr
 | some n =>
  have hn:ρ.free = ρ.free.dropLast ++ [n]:=by
   obtain ⟨ys,hys⟩:=List.getLast?_eq_some_iff.1 hg
   rw [hys]; simp
  obtain ⟨h1,_⟩:=h.1.free n (by rw [hn]; simp)
  obtain ⟨k,rfl⟩:∃ k,n = k + 1:=⟨n - 1,by omega⟩
  have:=RTake_reuse h x hx hsd hbv hnb hn
  dsimp only
  rw [show (((k + 1:Nat)):Int) = (k:Int) + 1 by omega,show k + 1 - 1 = k by omega]
  exact this
end
section
variable {σ : SlabSt Nd} {ρ : Rs}
theorem Lk.full (L:Lk σ ρ) (hw:σ.WF (fun _ => True)):ρ.fullB = decide (σ.used = σ.room):=by
 unfold Rs.fullB SlabSt.used
 rw [L.free,L.len,L.space]
 have h1:=hw.free_le
 have h2:=hw.len
 by_cases h0:σ.free.length = 0
 · rw [h0,decide_eq_true rfl,Bool.true_and]
   exact decide_eq_decide.2 ⟨fun h => by omega,fun h => by omega⟩
 rw [decide_eq_false h0,Bool.false_and]
 exact (decide_eq_false (by omega)).symm
theorem Lk.take (L:Lk σ ρ) (hw:σ.WF (fun _ => True)) {n:Nd} {x:Sp} (hx:SpOf (n,1) x.held) (hu:σ.used ≠ σ.room):(ρ.take x).1 = (σ.take n).1 ∧ (σ.take n).2.1 = 0 ∧ Lk (σ.take n).2.2 (ρ.take x).2:=by
 unfold Rs.take SlabSt.take
 rw [if_neg hu,L.free]
 cases hg:σ.free.getLast? with
 | none =>
  refine ⟨by rw [L.len],rfl,?_⟩
  have:=L.push hx
  exact ⟨this.space,rfl,this.len,this.slot⟩
 | some m =>
  refine ⟨rfl,rfl,?_⟩
  have:=L.set (m:=m - 1) hx
  exact ⟨this.space,rfl,this.len,this.slot⟩
end
end Go.Proofs.YtmeglndnkdgkoaaGreat.Store
namespace Go.Proofs.YtmeglndnkdgkoaaGreat
open Go Go.RowKit Go.Deep Go.ChangeShapes Go.WideShapes Go.ChangeAt Go.Proofs.YtmeglndnkdgkoaaGreat
section
variable {H : Type} {enc : TypeId × Value → H} {W : World} {base : Nat} {held : Bool} {n : Nat}
theorem cell_spot (w:World) (a:Addr) (h:a.spot.isSome = true):w.cell? a = none:=by
 unfold World.cell?
 split
 · rw [if_pos h]
 rfl
theorem cells_byte:Tryz.prog.cellsOf 5 = 1:=by kernel_rfl
theorem cells_int:Tryz.prog.cellsOf 3 = 1:=by kernel_rfl
theorem cells_bytes:Tryz.prog.cellsOf 32 = 1:=by kernel_rfl
theorem read_byte {sp:Nat → Bool} {v:Value} {x:DataW H × List MemPlace} (h:DataW.trod enc Tryz.prog W base sp held n 5 [v] = some x):∃ b:UInt8,v = bv b:=by
 obtain ⟨m,e,_,hw⟩:=DataW.trod_int Tryz.underlying5 h
 have hb:=bounds_u8 hw
 refine ⟨UInt8.ofNat m.toNat,?_⟩
 cases e
 have:(UInt8.ofNat m.toNat).toNat = m.toNat:=by simp; omega
 unfold bv
 rw [this]
 congr 1
 omega
theorem read_bytes {cs:List Value} {x:DataW H × List MemPlace} (h:DataW.trod enc Tryz.prog W base (fun _ => true) held n 32 cs = some x) :
 ∃ v bs,cs = [v] ∧ Bytes W v bs ∧ (bs ≠ [] → ∀ k,v.ownBlock = some k → k < W.heap.size):=by
 rcases open_slice1 Tryz.underlying32 cells_byte h with ⟨rfl,_⟩ | ⟨a,len,cap,m,n',V,D,Pl,rfl,hb,hl,hm,hmm,hx,hV⟩
 · exact ⟨_,[],rfl,Bytes.nil W,fun h => absurd rfl h⟩
 simp only [if_true] at hmm
 subst hmm
 have hby:∀ i,i < m → ∃ b:UInt8,V i = bv b:=fun i hi => read_byte (hV i hi).2
 obtain ⟨B,hB⟩:∃ B:Nat → UInt8,∀ i,i < m → V i = bv (B i):=by
  refine ⟨fun i => if hi:i < m then Classical.choose (hby i hi) else 0,fun i hi => ?_⟩
  simp only [dif_pos hi]
  exact Classical.choose_spec (hby i hi)
 have hlen:((List.range len).map B).length = len:=by simp
 have hsp:0 < len → ∃ g off,a = ⟨g,off,none⟩:=fun h0 => by
  obtain ⟨g,off,spot⟩:=a
  cases spot with
  | none => exact ⟨g,off,rfl⟩
  | some s =>
   have k0:=(hV 0 (by omega)).1
   rw [cell_spot _ _ rfl] at k0
   cases k0
 refine ⟨_,(List.range len).map B,rfl,⟨some a,m,by rw [hlen],by rw [hlen]; exact hl,hm,fun j y hj => ?_⟩,fun hne k hk => ?_⟩
 · have hjl:j < len:=by
    have:=(List.getElem?_eq_some_iff.1 hj).1
    simpa using this
   obtain ⟨g,off,rfl⟩:=hsp (by omega)
   refine ⟨g,off,rfl,?_⟩
   have hc:=(hV j (by omega)).1
   rw [hB j (by omega)] at hc
   have hyj:y = B j:=by simp [hjl] at hj; exact hj.symm
   rw [hyj]
   simpa [add_plain] using hc
 have h0:0 < len:=by
  cases len with
  | zero => exact absurd rfl hne
  | succ l => omega
 have hc:=(hV 0 (by omega)).1
 obtain ⟨g,off,rfl⟩:=hsp h0
 cases hk
 have:=cell_block hc
 simpa [add_plain] using this
theorem cells_key:Tryz.prog.cellsOf 31 = 32:=by kernel_rfl
theorem read_key {sp:Nat → Bool} {cs:List Value} {x:DataW H × List MemPlace} (h:DataW.trod enc Tryz.prog W base sp held n 31 cs = some x):∃ k:List UInt8,cs = k.map bv ∧ k.length = 32:=by
 obtain ⟨xs,m,rfl,hx,hl,hxl,hf⟩:=DataW.trod_array Tryz.underlying31 h
 have hl':cs.length = 32:=hl.trans cells_key
 have hby:∀ (i:Nat) (v:Value),cs[i]? = some v → ∃ b:UInt8,v = bv b:=fun i v hv => by
  have hi:i < 32:=by have:=(List.getElem?_eq_some_iff.1 hv).1; omega
  have h1:=hf i hi
  rw [cells_byte,Nat.mul_one] at h1
  have h2:(cs.drop i).take 1 = [v]:=by
   have hlt:i < cs.length:=by omega
   rw [List.drop_eq_getElem_cons hlt]
   rw [List.getElem?_eq_getElem hlt] at hv
   cases hv
   rfl
  rw [h2] at h1
  have hxi:i < xs.length:=by omega
  rw [List.getElem?_eq_getElem hxi] at h1
  exact read_byte h1
 clear hf hl hxl hx h
 have:∀ (l:List Value),(∀ (i:Nat) (v:Value),l[i]? = some v → ∃ b:UInt8,v = bv b) → ∃ k:List UInt8,l = k.map bv:=fun l => by
  induction l with
  | nil => intro _; exact ⟨[],rfl⟩
  | cons a l ih =>
   intro hq
   obtain ⟨b,rfl⟩:=hq 0 a rfl
   obtain ⟨k,rfl⟩:=ih (fun i v hv => hq (i + 1) v (by simpa using hv))
   exact ⟨b :: k,rfl⟩
 obtain ⟨k,rfl⟩:=this cs hby
 exact ⟨k,rfl,by simpa using hl'⟩
def PartAt (w:World) (g o:Nat) (cs:Array Value):Prop := ∃ cur t fr,w.heap[g]? = some (.cells cur t fr) ∧ o + cs.size ≤ cur.size ∧ cur.extract o (o + cs.size) = cs
theorem PartAt.of_cells {w:World} {g o m:Nat} {cs:List Value} (hm:0 < m) (hl:cs.length = m) (h:∀ i,i < m → w.cell? ⟨g,o + i,none⟩ = cs[i]?):PartAt w g o cs.toArray:=by
 have h0:=h 0 hm
 rw [List.getElem?_eq_getElem (by omega)] at h0
 unfold World.cell? at h0
 cases hq:w.heap[g]? with
 | none => simp only [hq] at h0; cases h0
 | some ob =>
  cases ob with
  | cells cur t fr =>
   have hc:∀ i,i < m → cur[o + i]? = cs[i]?:=fun i hi => by
    have:=h i hi
    unfold World.cell? at this
    simpa [hq] using this
   have hlast:=hc (m - 1) (by omega)
   rw [List.getElem?_eq_getElem (show m - 1 < cs.length by omega)] at hlast
   have hsz:=(Array.getElem?_eq_some_iff.1 hlast).1
   have hsz':o + m ≤ cur.size:=by omega
   refine ⟨cur,t,fr,hq,by simpa [hl] using hsz',?_⟩
   apply Array.ext'
   apply List.ext_getElem?
   intro i
   simp only [List.size_toArray,Array.toList_extract,List.extract,hl]
   rw [show o + m - o = m by omega]
   by_cases hi:i < m
   · rw [List.getElem?_take_of_lt hi,List.getElem?_drop,Array.getElem?_toList]
     exact hc i hi
   rw [List.getElem?_eq_none (by simp; omega),List.getElem?_eq_none (by omega)]
  | _ => simp only [hq] at h0; cases h0
theorem PartAt.keep {F:Nat → Prop} {w w':World} {g o:Nat} {cs:Array Value} (h:PartAt w g o cs) (hc:Ch F w w') (hF:¬ F g):PartAt w' g o cs:=by
 obtain ⟨cur,t,fr,h1,h2,h3⟩:=h
 exact ⟨cur,t,fr,hc.row h1 hF,h2,h3⟩
end
end Go.Proofs.YtmeglndnkdgkoaaGreat
namespace Go.Proofs.YtmeglndnkdgkoaaGreat.Law9
open Go Go.RowKit Go.Proofs.YtmeglndnkdgkoaaGreat Go.Proofs.YtmeglndnkdgkoaaGreat.ShaW Go.Proofs.YtmeglndnkdgkoaaGreat.Path Go.Proofs.YtmeglndnkdgkoaaGreat.Store Go.Deep Go.ChangeShapes Go.WideShapes Go.ChangeAt
structure Act9 where
 kind:Int
 key:List UInt8
 vv:Value
 val:List UInt8
 h:Int
def Act9.cells (x:Act9):Array Value:=(.int .i64 x.kind :: (x.key.map bv ++ [x.vv,.int .i64 x.h])).toArray
structure Act9.Good (w:World) (x:Act9):Prop where
 key:x.key.length = 32
 val:Bytes w x.vv x.val
 blk:x.val ≠ [] → ∀ k,x.vv.ownBlock = some k → k < w.heap.size
section
variable {x : Act9} (h : x.key.length = 32)
include h
theorem Act9.size:x.cells.size = 35:=by simp [Act9.cells,h]
omit h in
theorem Act9.list:x.cells.toList = .int .i64 x.kind :: (x.key.map bv ++ [x.vv,.int .i64 x.h]):=rfl
theorem Act9.at_key:x.cells.extract 1 (1 + 32) = brow x.key:=by
 apply Array.ext'
 simp only [Array.toList_extract,List.extract,Act9.list,brow,List.drop_succ_cons,List.drop_zero]
 rw [List.take_append_of_le_length (by simp [h]),List.take_of_length_le (by simp [h])]
theorem Act9.tail (i:Nat):x.cells[33 + i]? = [x.vv,.int .i64 x.h][i]?:=by
 rw [← Array.getElem?_toList,Act9.list,show 33 + i = 32 + i + 1 by omega,List.getElem?_cons_succ,List.getElem?_append_right (by simp [h])]
 simp [h]
theorem Act9.at_val:x.cells[33]? = some x.vv:=Act9.tail h 0
theorem Act9.at_h:x.cells[34]? = some (.int .i64 x.h):=Act9.tail h 1
end
theorem Act9.Good.keep {F:Nat → Prop} {w w':World} {x:Act9} (h:x.Good w) (hc:Ch F w w') (hF:∀ k,F k → w.heap.size ≤ k):x.Good w' :=
 ⟨h.key,h.val.keepw hc (fun h0 k hk hf => by have:=h.blk h0 k hk; have:=hF k hf; omega),fun h0 k hk => Nat.lt_of_lt_of_le (h.blk h0 k hk) hc.size⟩
structure Pr where
 key:List UInt8
 vv:Value
 val:List UInt8
def Pr.cells (x:Pr):Array Value:=(x.key.map bv ++ [x.vv]).toArray
structure Pr.Good (w:World) (x:Pr):Prop where
 key:x.key.length = 32
 val:Bytes w x.vv x.val
 blk:x.val ≠ [] → ∀ k,x.vv.ownBlock = some k → k < w.heap.size
def Pr.ent (x:Pr):List UInt8 × List UInt8:=(x.key,x.val)
section
variable {x : Pr} (h : x.key.length = 32)
include h
theorem Pr.size:x.cells.size = 33:=by simp [Pr.cells,h]
omit h in
theorem Pr.list:x.cells.toList = x.key.map bv ++ [x.vv]:=rfl
theorem Pr.at_key:x.cells.extract 0 (0 + 32) = brow x.key:=by
 apply Array.ext'
 simp only [Array.toList_extract,List.extract,Pr.list,brow,List.drop_zero]
 rw [List.take_append_of_le_length (by simp [h]),List.take_of_length_le (by simp [h])]
theorem Pr.at_val:x.cells[32]? = some x.vv:=by
 rw [← Array.getElem?_toList,Pr.list,List.getElem?_append_right (by simp [h])]
 simp [h]
end
theorem Pr.one {w:World} {x:Pr} (h:x.Good w):∀ v ∈ x.cells.toList,v.oneCell' = true:=fun v hv => by
 rw [Pr.list,List.mem_append,List.mem_map,List.mem_singleton] at hv
 rcases hv with ⟨b,_,rfl⟩ | rfl
 · rfl
 obtain ⟨ao,cap,e,_⟩:=h.val.form
 rw [e]; rfl
theorem Pr.Good.keep {F:Nat → Prop} {w w':World} {x:Pr} (h:x.Good w) (hc:Ch F w w') (hF:∀ k,F k → w.heap.size ≤ k):x.Good w' :=
 ⟨h.key,h.val.keepw hc (fun h0 k hk hf => by have:=h.blk h0 k hk; have:=hF k hf; omega),fun h0 k hk => Nat.lt_of_lt_of_le (h.blk h0 k hk) hc.size⟩
def PairsAt (w:World) (ao:Option Addr) (l:List Pr):Prop:=(∀ x ∈ l,x.Good w) ∧ ∀ i x,l[i]? = some x → ∃ (g off:Nat),ao = some ⟨g,off,none⟩ ∧ PartAt w g (off + i * 33) x.cells
theorem PairsAt.keep {F:Nat → Prop} {w w':World} {ao:Option Addr} {l:List Pr} (h:PairsAt w ao l) (hc:Ch F w w') (hF:∀ k,F k → w.heap.size ≤ k):PairsAt w' ao l:=⟨fun x hx => (h.1 x hx).keep hc hF,fun i x hi => by
 obtain ⟨g,off,h1,h3⟩:=h.2 i x hi
 refine ⟨g,off,h1,h3.keep hc (fun hf => ?_)⟩
 obtain ⟨cur,t,fr,hr,_⟩:=h3
 have:=row_lt hr
 have:=hF g hf
 omega⟩
section
variable {H : Type} {enc : TypeId × Value → H} {W : World} {base : Nat}
theorem cells_act9:Tryz.prog.cellsOf 47 = 35:=by kernel_rfl
theorem cells_path:Tryz.prog.cellsOf 31 = 32:=by kernel_rfl
theorem read_act {n:Nat} {cs:List Value} {y:DataW H × List MemPlace} (h:DataW.trod enc Tryz.prog W base (fun _ => true) true n 47 cs = some y):∃ x:Act9,x.Good W ∧ cs = x.cells.toList:=by
 obtain ⟨xs,m,rfl,hx,hl,hxl,hf⟩:=DataW.trod_struct Tryz.underlying47 h
 rw [cells_act9] at hl
 have hx4:xs.length = 4:=hxl
 have g:=fun i (hi:i < 4) => (List.getElem?_eq_getElem (l:=xs) (i:=i) (by omega))
 have f0:=hf 0 ⟨ "Kind",3,0,false, "", "",0⟩ rfl
 have f1:=hf 1 ⟨ "Key",31,1,false, "", "",8⟩ rfl
 have f2:=hf 2 ⟨ "Value",32,33,false, "", "",40⟩ rfl
 have f3:=hf 3 ⟨ "H",3,34,false, "", "",64⟩ rfl
 rw [g 0 (by omega)] at f0
 rw [g 1 (by omega)] at f1
 rw [g 2 (by omega)] at f2
 rw [g 3 (by omega)] at f3
 simp only [cells_int,cells_path,cells_bytes] at f0 f1 f2 f3
 obtain ⟨n0,e0,_,_⟩:=DataW.trod_int Tryz.underlying3 f0
 obtain ⟨k,e1,hk⟩:=read_key f1
 obtain ⟨v,bs,e2,hb,hv⟩:=read_bytes f2
 obtain ⟨n3,e3,_,_⟩:=DataW.trod_int Tryz.underlying3 f3
 refine ⟨⟨n0,k,v,bs,n3⟩,⟨hk,hb,hv⟩,?_⟩
 have hsplit:cs = cs.take 1 ++ ((cs.drop 1).take 32 ++ ((cs.drop 33).take 1 ++ (cs.drop 34).take 1)):=by
  have a5:(cs.drop 34).take 1 = cs.drop 34:=List.take_of_length_le (by simp [hl])
  have step:∀ i j,cs.drop i = (cs.drop i).take j ++ cs.drop (i + j):=fun i j => by
   conv => lhs; rw [← List.take_append_drop j (cs.drop i)]
   rw [List.drop_drop]
  rw [a5, ← step 33 1, ← step 1 32]
  exact step 0 1
 rw [hsplit]
 simp only [List.drop_zero] at e0
 rw [e0,e1,e2,e3]
 rfl
end
end Go.Proofs.YtmeglndnkdgkoaaGreat.Law9
namespace Go.Proofs.YtmeglndnkdgkoaaGreat.Law9
open Go Go.RowKit Go.Proofs.YtmeglndnkdgkoaaGreat Go.Proofs.YtmeglndnkdgkoaaGreat.ShaW Go.Proofs.YtmeglndnkdgkoaaGreat.Path Go.Proofs.YtmeglndnkdgkoaaGreat.Store
theorem PartAt.cellAt {w:World} {g o:Nat} {cs:Array Value} {i:Nat} {v:Value} (h:PartAt w g o cs) (hi:cs[i]? = some v):w.cell? ⟨g,o + i,none⟩ = some v:=by
 obtain ⟨cur,t,fr,h1,h2,h3⟩:=h
 refine row_cell h1 ?_
 rw [← h3] at hi
 have hlt:=(Array.getElem?_eq_some_iff.1 hi).1
 rw [Array.getElem?_extract] at hi
 simp at hi
 exact hi.2
theorem extract_get {cur cs:Array Value} {o i:Nat} {v:Value} (h3:cur.extract o (o + cs.size) = cs) (hi:cs[i]? = some v):cur[o + i]? = some v:=by
 rw [← h3,Array.getElem?_extract] at hi
 simp at hi
 exact hi.2
theorem extract_part {cur cs K:Array Value} {o n:Nat} (h3:cur.extract o (o + cs.size) = cs) (hn:n ≤ cs.size) (hk:cs.extract 0 (0 + n) = K):cur.extract o (o + n) = K:=by
 rw [← hk, ← h3,Array.extract_extract]
 congr 1
 omega
structure St9 (w0 w:World) (s:Nat) (σ:SlabSt Nd) (root:Int) (L:Ents) (n:Nat) (b:Nat):Prop where
 own:Ow w0 w s σ (fun _ => False)
 db:Db σ root L
 room:σ.room = n
 total:total σ ≤ b
theorem St9.adds {w0 w w':World} {s n b:Nat} {σ:SlabSt Nd} {root:Int} {L:Ents} (h:St9 w0 w s σ root L n b) (a:Adds w w'):St9 w0 w' s σ root L n b:=⟨h.own.adds a,h.db,h.room,h.total⟩
theorem St9.world {w0 w:World} {s n b:Nat} {σ:SlabSt Nd} {root:Int} {L:Ents} (h:St9 w0 w s σ root L n b):Adds w0 w:=h.own.world
theorem St9.used {w0 w:World} {s n b:Nat} {σ:SlabSt Nd} {root:Int} {L:Ents} (h:St9 w0 w s σ root L n b):σ.used ≤ n:=by rw [← h.room]; exact h.db.good.room
end Go.Proofs.YtmeglndnkdgkoaaGreat.Law9

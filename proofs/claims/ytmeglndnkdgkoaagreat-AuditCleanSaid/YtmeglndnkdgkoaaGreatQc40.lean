/- Laws of the layers below. -/
import Derived.Test.YtmeglndnkdgkoaaGreatQc39
set_option maxHeartbeats 3200000
set_option maxRecDepth 100000
set_option linter.unusedVariables false
namespace Go.Proofs.YtmeglndnkdgkoaaGreat.Store
open Go.RowKit Go.Shelf Go.Sort Go.Proofs.YtmeglndnkdgkoaaGreat.ShaW Go.Proofs.YtmeglndnkdgkoaaGreat.Path Go.Proofs.YtmeglndnkdgkoaaGreat.Law9
attribute [local go_sem] Oper.semAt_some
section
variable {F : Fence} {nF : Nat} {P : Program} {w : World} {ops : Array Oper} {rest : List Oper} {o : Oper} {a : Act} {Q : Exit → Act → World → Prop}
theorem wpListIn_build_two (hgd:o.guard = none) (t k j:Nat) (x y:Operand) (ho:o.op = .build t #[(k,x),(j,y)]) (vx vy:Value) (hx:a.eval x = vx) (hy:a.eval y = vy)
 (cells:Array Value) (hf:P.built t [(k,vx),(j,vy)] = some cells) (h:wpListIn F nF P ops Q rest (a.put o.dst (.agg cells)) w):wpListIn F nF P ops Q (o :: rest) a w :=
 wpListIn_plain hgd fun K hK => by
  unfold Oper.wpIn
  refine ⟨by simp [Oper.about,ho],?_⟩
  rw [Oper.semAt_plain F _ _ (by rw [ho]; intro c hc'; cases hc')]
  have hr:=run_build (P:=P) w t #[(k,vx),(j,vy)] cells hf
  simp [execOp,ho,hx,hy,hr,Result.andThen]
  exact hK _ _ h
theorem wpListIn_buildSlice_one (hgd:o.guard = none) (t:TypeId) (x:Operand) (ho:o.op = .buildSlice t 1 #[(0,x)])
 (e:TypeId) (ie:TypeInfo) (z v:Value) (hx:a.eval x = v) (hu:P.underlying t = some (.slice e)) (hie:P.info? e = some ie) (hz:ie.zero = some z) (hsmall:ie.size ≤ 65536) (hpos:0 < ie.size) (hv:v.cells.size = ie.size)
 (h:wpListIn F nF P ops Q rest (a.put o.dst (.slice (some ⟨w.heap.size,0,none⟩) 1 1)) (w.alloc (.cells v.cells e))):wpListIn F nF P ops Q (o :: rest) a w :=
 wpListIn_plain hgd fun K hK => by
  unfold Oper.wpIn
  refine ⟨by simp [Oper.about,ho],?_⟩
  rw [Oper.semAt_plain F _ _ (by rw [ho]; intro c hc'; cases hc')]
  unfold execOp
  have:=run_buildSlice_one w t e ie z v hu hie hz hsmall hpos hv
  simp only [ho,List.map_toArray,List.map_cons,List.map_nil,hx,Sem.run_bind,this,Result.andThen_ok]
  exact hK _ _ h
theorem wpListIn_append_mine (hgd:o.guard = none) (s x:Operand) (t:TypeId)
 (ho:o.op = .call { callee:=.builtin .append,args := #[s,x],argTypes := #[t,t] }) (e:TypeId) (i:TypeInfo) (z:Value) (size bytes:Nat) (ht:P.underlying t = some (.slice e)) (hi:P.info? e = some i) (hz:i.zero = some z)
 (hsize:i.size = size) (hby:i.bytes = bytes) (hzs:z.cells.size = size) (hsz:0 < size) (v:Value) (n:Nat) (xs:List Value) (hs:a.eval s = v) (hown:w.ownsRow 0 e size v n xs)
 (ad:Addr) (m c:Nat) (news:List Value) (hx:a.eval x = .slice (some ad) m c) (hl:news.length = m * size) (hnews:∀ j u,news[j]? = some u → w.cell? (ad.add j) = some u) (h1:∀ u ∈ news,u.oneCell' = true)
 (h63:n + m ≤ maxLen) (hbytes:(n + m) * bytes ≤ 140737488355328)
 (h:∀ v' w',w'.ownsRow 0 e size v' (n + m) (xs ++ news) → w.grownBy w' v.ownBlock → (v'.ownBlock = v.ownBlock ∨ ∀ k,v'.ownBlock = some k → w.heap.size ≤ k) → wpListIn F nF P ops Q rest (a.put o.dst v') w'):wpListIn F nF P ops Q (o :: rest) a w :=
 wpListIn_plain hgd fun K hK => by
  obtain ⟨v',w',hrun,r1,r2,r3⟩:=run_append_mine w t o.type e i z size bytes ht hi hz hsize hby hzs hsz v n xs hown ad m c news hl hnews h1 h63 hbytes
  unfold Oper.wpIn
  refine ⟨by simp [Oper.about,ho,resolve,Target.leads,Sem.run_pure],?_⟩
  rw [Oper.semAt_plain F _ _ (by rw [ho]; intro c hc'; cases hc')]
  simp [execOp,ho,resolve,invoke,builtin,hs,hx,hrun,Result.andThen]
  exact hK _ _ (h v' w' r1 r2 r3)
end
theorem from_all0 (t:Tr) (hl:∀ e ∈ t.ents,e.1.length = 32):t.from (List.replicate 32 0) = t.ents:=by
 unfold Tr.from
 refine List.filter_eq_self.2 fun e he => ?_
 have:=cmp_zeros e.1
 rw [hl e he] at this
 unfold geK
 rw [Bool.not_eq_true',decide_eq_false_iff_not]
 exact this
theorem row_pairs {w:World} {b:Nat} {v:Value} {out:List Pr} (h:RowP w b v out) (hg:∀ x ∈ out,x.Good w):∃ ao cap,v = .slice ao out.length cap ∧ PairsAt w ao out:=by
 obtain ⟨ao,cap,rfl⟩:=h.form
 refine ⟨ao,cap,rfl,hg,fun i x hx => ?_⟩
 have hl:0 < out.length:=by have:=(List.getElem?_eq_some_iff.1 hx).1; omega
 obtain ⟨g,cap',cur,e1,_,hrow,hsz,hc,_⟩:=h.open (fun x hx => (hg x hx).key) hl
 injection e1 with e1 _ _
 subst e1
 refine ⟨g,0,rfl,cur,_,_,hrow,?_,?_⟩
 · rw [Pr.size (hg x (List.mem_of_getElem? hx)).key]
   have:=(List.getElem?_eq_some_iff.1 hx).1
   omega
 rw [Pr.size (hg x (List.mem_of_getElem? hx)).key,Nat.zero_add]
 exact hc i x hx
theorem owns_cells {w:World} {base n sz g:Nat} {e:TypeId} {v:Value} {xs:List Value} (h:w.ownsRow base e sz v n xs) (hk:v.ownBlock = some g):∃ cur,w.heap[g]? = some (.cells cur e (0,0)):=by
 rcases h.2 with ⟨rfl,_⟩ | ⟨g',cap,cur,rfl,_,h2,_⟩
 · cases hk
 cases hk; exact ⟨cur,h2⟩
structure SdI (w3:World) (B7:Nat) (pre:List Pr) (v:Value) (W:World):Prop where
 ch:Ch (fun k => k = B7) w3 W
 r7:W.heap[B7]? = some (.cells #[v] 63 (0,0))
 row:RowP W w3.heap.size v pre
 vals:∀ x ∈ pre,x.key.length = 32 ∧ BytesRow W w3.heap.size x.vv x.val
section
variable {w3 W W' : World} {B7 : Nat} {pre : List Pr} {v : Value}
theorem BytesRow.u8 {n0 g:Nat} {bs:List UInt8} (h:BytesRow W n0 v bs) (hk:v.ownBlock = some g):∃ cur,W.heap[g]? = some (.cells cur 5 (0,0)):=by
 rcases h with ⟨rfl,_⟩ | ⟨g',c,all,rfl,_,h2,_⟩
 · cases hk
 cases hk; exact ⟨_,h2⟩
theorem SdI.turn (h:SdI w3 B7 pre v W) {row:Option Nat} (hg:W.grownBy W' row) (hr:∀ k,row = some k → w3.heap.size ≤ k ∧ ∃ o:Obj,W.heap[k]? = some o ∧ o.isCells = false) (hB:B7 < w3.heap.size):SdI w3 B7 pre v W':=by
 have hc:Ch (fun k => row = some k) W W':=(Ch.refl _ W).grown hg (fun k hk => .inl hk)
 have no:∀ {k cur t fr},W.heap[k]? = some (.cells cur t fr) → row ≠ some k:=fun {k cur t fr} hk e => by
  obtain ⟨_,o,ho,hcl⟩:=hr k e
  rw [hk] at ho
  cases ho
  cases hcl
 refine ⟨h.ch.trans hc (fun k hk => .inr (hr k hk).1),hc.row h.r7 (no h.r7),hc.owns h.row (fun k hk e => ?_),fun x hx => ⟨(h.vals x hx).1,(h.vals x hx).2.keep hc (fun k hk e => ?_)⟩⟩
 · obtain ⟨cur,hcur⟩:=owns_cells h.row hk
   exact no hcur e
 obtain ⟨cur,hcur⟩:=(h.vals x hx).2.u8 hk
 exact no hcur e
theorem SdI.keep (h:SdI w3 B7 pre v W) (a:Adds W W'):SdI w3 B7 pre v W' :=
 ⟨h.ch.trans a (fun _ => fEq),a.row h.r7 id,a.owns h.row (fun _ _ h => h),fun x hx => ⟨(h.vals x hx).1,(h.vals x hx).2.keep a (fun _ _ h => h)⟩⟩
theorem SdI.push (h:SdI w3 B7 pre v W) (hB:B7 < w3.heap.size) {w2 w4:World} {x:Pr} {v':Value} {n0:Nat} (a:Adds W w2) (hx:x.key.length = 32) (hn0:n0 = w3.heap.size) (hb:BytesRow w2 n0 x.vv x.val)
 (own:w4.ownsRow 0 159 33 v' (pre.length + 1) (flatP pre ++ x.cells.toList)) (hg:w2.grownBy w4 v.ownBlock) (loc:v'.ownBlock = v.ownBlock ∨ ∀ k,v'.ownBlock = some k → w2.heap.size ≤ k) :
 SdI w3 B7 (pre ++ [x]) v' (w4.setCell ⟨B7,0,none⟩ v') ∧ Ch (fun k => k = B7 ∨ v.ownBlock = some k) W (w4.setCell ⟨B7,0,none⟩ v'):=by
 have h2:=h.keep a
 have hc:Ch (fun k => v.ownBlock = some k) w2 w4:=(Ch.refl _ w2).grown hg (fun k hk => .inl hk)
 have hlow:∀ k,v.ownBlock = some k → w3.heap.size ≤ k:=fun k hk => (h.row.lt k hk).1
 have hne:∀ k,v.ownBlock = some k → k ≠ B7:=fun k hk e => by have:=hlow k hk; omega
 have hs2:=h2.ch.size
 have hlow':∀ k,v'.ownBlock = some k → w3.heap.size ≤ k:=fun k hk => by
  rcases loc with e | e
  · rw [e] at hk; exact hlow k hk
  have:=e k hk; omega
 have r4:=hc.row h2.r7 (fun e => hne _ e rfl)
 have hS:Ch (fun k => k = B7) w4 (w4.setCell ⟨B7,0,none⟩ v'):=(Ch.refl (fun k => k = B7) w4).setCell (p:=⟨B7,0,none⟩) (.inl rfl) _
 have hC:Ch (fun k => k = B7 ∨ v.ownBlock = some k) w2 (w4.setCell ⟨B7,0,none⟩ v'):=Ch.trans_same (hc.mono (fun _ _ h => .inr h)) (hS.mono (fun _ _ h => .inl h))
 have nob:∀ {g cur},w2.heap[g]? = some (.cells cur 5 (0,0)) → v.ownBlock ≠ some g:=fun {g cur} hcur e => by
  obtain ⟨c',hc'⟩:=owns_cells h2.row e
  rw [hcur] at hc'
  simp at hc'
 refine ⟨⟨h2.ch.trans hC (fun k hk => ?_),row_set_same r4 0 v',?_,fun y hy => ?_⟩,Ch.trans_same (a.mono (fun _ _ h => h.elim)) hC⟩
 · rcases hk with hk | hk
   · exact .inl hk
   exact .inr (hlow k hk)
 · have hfl:flatP (pre ++ [x]) = flatP pre ++ x.cells.toList:=by rw [flatP_append]; simp [flatP]
   unfold RowP
   rw [hfl,List.length_append,List.length_singleton]
   exact hS.owns (own.base hlow') (fun k hk e => by have:=hlow' k hk; omega)
 have aux:∀ {z:Value} {bs:List UInt8},BytesRow w2 w3.heap.size z bs → BytesRow (w4.setCell ⟨B7,0,none⟩ v') w3.heap.size z bs:=fun {z bs} hz => hz.keep hC (fun k hk e => by
  rcases e with e | e
  · have:=(hz.lt k hk).1; omega
  obtain ⟨cur,hcur⟩:=hz.u8 hk
  exact nob hcur e)
 rcases List.mem_append.1 hy with hy | hy
 · exact ⟨(h2.vals y hy).1,aux (h2.vals y hy).2⟩
 obtain rfl:=List.mem_singleton.1 hy
 exact ⟨hx,aux (hn0 ▸ hb)⟩
end
section
variable {w : World} {s : Nat} {F : Nat → Prop} {σ : SlabSt Nd} {root : Int} {t : Tr}
theorem Sound_ok (h:At w s F σ) (G:Good σ) (hr:Rep (sk σ) root 0 t) (hre:rootErr σ root = 0) (hlv:t.leaves ≤ 4096) :
 Calls Tryz.prog 44 #[.pointer (some ⟨s,0,none⟩),.int .i64 root] w fun e w' => e = .returned (.tuple #[.bool true,.int .i64 0]) ∧ Adds w w':=by
 have a0:Adds w (w.alloc (.cells (intL [root]).toArray 3)):=(Ch.refl _ w).alloc _
 have hi:=ints_new0 w [root]
 have hck:=check_ok (h.adds a0) 1 hi (by simp)
 have hcz:chk σ [root] = 0:=by unfold chk; rw [if_neg (by simp)]; exact rerr_zero.2 (fun x hx => by simp at hx; subst hx; exact hre)
 rw [hcz] at hck
 have hsz:=fun w1 (a:Adds w w1) => Size_ok (h.adds a) root
 have hz0:(nd σ root).size = (t.leaves:Nat):=(size_is h G hr).1
 rw [hz0] at hsz
 obtain ⟨hE1,_,hE3⟩:=hr.ents G.fit
 have hall:=fun w1 (a:Adds w w1) => All_of (S:=.pointer (some ⟨s,0,none⟩)) (R:=fun q w' => SeqIs w1.heap.size w' (t.from (List.replicate 32 0)) q ∧ Adds w1 w') (From_ok (h.adds a) G hr hre (List.replicate 32 0) rfl) ⟨_,rfl⟩
 rw [from_all0 t (fun e he => (hE1 e he).1)] at hall
 have hdg:=fun w1 (a:Adds w w1) => Digest_ok (h.adds a) root
 have hde:digestOf σ root = (tree 256 t.ents).dig:=by rw [digestOf_sk,hr.dig G.fit, ← Rep.canon G.fit hr 256 rfl]
 have hdl:(tree 256 t.ents).dig.length = 32:=by rw [← hde]; exact h.digest_length root
 obtain ⟨E,hE⟩:∃ E,E = brow (tree 256 t.ents).dig:=⟨_,rfl⟩
 rw [hde, ← hE] at hdg
 obtain ⟨Z,hZ⟩:∃ Z,Z = brow (List.replicate 32 0):=⟨_,rfl⟩
 have hzd:=zeroH
 have hzp:=zeroP
 rw [← hZ] at hzd hzp
 have hEs:E.size = 32 ∧ ∀ v ∈ E.toList,v.oneCell' = true:=by rw [hE]; exact ⟨by rw [brow_size]; exact hdl,brow_one _⟩
 have heq:=eql_keys 118 Tryz.underlying118 (tree 256 t.ents).dig (tree 256 t.ents).dig hdl hdl
 rw [← hE,decide_eq_true rfl] at heq
 obtain ⟨i0,z0,p1,p2,p3,p4,p5⟩:=pair_info
 have HI:=(hIq p1 (aIq p2 (aIq p3 (aIq p4 p5))))
 have HZ:=(hIq hzd (aIq (by rw [hZ]; rfl:Z.size = 32) hzp))
 have HE:=(hIq hEs hE)
 have HT:=(hIq hE1 (aIq hE3 (show t.ents.length ≤ 4096 by rw [Tr.ents_length]; exact hlv)))
 have HQ:=(hIq hck (aIq hsz (aIq hall hdg)))
 obtain ⟨lv,hlvv⟩:∃ lv,lv = t.leaves:=⟨_,rfl⟩
 rw [← hlvv] at HQ hlv
 have hlz:decide ((4096:Int) < (lv:Int)) = false:=decide_eq_false (by omega)
 have hlz':¬ ((4096:Int) < (lv:Int)):=by omega
 clear h G hr hre hi hck hcz hsz hz0 hall hdg hE hde hdl hZ hzd hzp hEs a0 hE1 hE3 p1 p2 p3 p4 p5 hlvv hlv
 refine (callsIn_wide (n:=4)).1 ?_
 refine callsIn_of_wp_marks Tryz.func44 rfl trivial ?_ rfl
 refine wpIn_wide.2 ?_
 simp only [Tryz.ntmps44,List.size_toArray,List.length_cons,List.length_nil,Nat.reduceAdd,Nat.reduceSub,Array.replicate_succ,Array.replicate_zero,List.push_toArray,List.append_toArray,List.nil_append,List.cons_append]
 go_wp2_with fail
 refine HQ.out.1.mono ?_; rintro e w1 ⟨rfl,a1⟩
 have A1:=Lib.hid (((Ch.refl (fun _ => False) w).alloc (.cells (intL [root]).toArray 3)).trans a1 (fun _ => fEq))
 clear a1
 go_wp2_with fail
 refine (HQ.out.2.1 _ A1.out).mono ?_; rintro e w2 ⟨rfl,a2⟩
 have A2:=Lib.hid (A1.out.trans a2 (fun _ => fEq))
 clear a2 A1
 have HALL:=Lib.hid (HQ.out.2.2.1 (w2.alloc (.cells #[.slice none 0 0] 63)) (A2.out.alloc _))
 go_wp2_with fail
 refine HALL.out.mono ?_; rintro e w3 ⟨q,rfl,hq,a3⟩
 obtain ⟨b0,v0,out,rfl,hbb,hrow,htold,hout,hvb,hxb⟩:=hq
 obtain ⟨B7,hB7⟩:∃ B,B = w2.heap.size:=⟨_,rfl⟩
 have ol:out.length ≤ 4096:=by have h1:=congrArg List.length hout; rw [List.length_map] at h1; have:=HT.out.2.2; omega
 have ov:∀ x ∈ out,x.val.length ≤ 1024:=fun x hx => (HT.out.1 _ (by rw [← hout]; exact List.mem_map_of_mem hx)).2
 have r7:w3.heap[B7]? = some (.cells #[.slice none 0 0] 63 (0,0)):=by rw [hB7]; exact a3.row (heap_alloc_new w2 _) id
 have h73:=row_lt r7
 have HSEQ:=Lib.hid (overSeqG (G:=fun k => k = B7) 3 (by omega) b0 (w2.alloc (.cells #[.slice none 0 0] 63)).heap.size (fun k hk => by rw [hk,hB7]; simp) v0 out w3 hrow (htold.base' (Nat.le_refl _)) (by omega) ov)
 have A3:=(hIq ((A2.out.alloc (.cells #[.slice none 0 0] 63)).trans a3 (fun _ => fEq)) (aIq r7 (aIq h73 (aIq (show w.heap.size ≤ B7 by rw [hB7]; exact A2.out.size) hB7))))
 have HO:=(hIq hout (aIq ol ov))
 have hnil:∀ (w:World),(Go.binOp BinOp.eql 68 (Value.func (Fn.func 175) #[] #[.pointer (some ⟨b0,0,none⟩)]) Value.nilFunc).run Tryz.prog w = Result.ok (Value.bool false) w:=fun w => by kernel_rfl
 clear hrow htold hout hvb hxb hbb a3 r7 HALL ol ov h73
 rw [← hB7]
 clear hB7
 go_wp2_with fail
 clear hnil
 refine at_act1 (fun A0 hA0 => ?_)
 have HA0:=Lib.hid hA0
 refine (wpIn_wide (n:=4)).1 ?_
 refine wpIn_rangeY (α:=Pr) rfl (by omega) (gf:=175) (by rw [hA0]; rfl) trivial (enters_of Tryz.func175 (by kernel_rfl) rfl) HSEQ.out belG_t (belG_b (Nat.le_refl _)) (Below.refl _ _) (fun _ => rfl)
  (fun pre W => (∃ v,SdI w3 B7 pre v W) ∧ pre.map Pr.ent = t.ents.take pre.length) (fun _ _ _ => False)
  (fun st W W' row hs hg hr => ⟨hs.1.imp fun v hv => hv.turn hg hr A3.out.2.2.1,hs.2⟩) (fun c => fun st W W' row hs hg hr => hs) ⟨⟨_,Ch.refl _ _,A3.out.2.1,RowP.nil _ _,fun x hx => absurd hx List.not_mem_nil⟩,rfl⟩
  (fun pre x a W => ∃ p,a = { tmps:=(((A0.tmps.setIfInBounds 26 (.agg (brow x.key))).setIfInBounds 27 x.vv).setIfInBounds 8 (.pointer (some ⟨p,0,none⟩))).setIfInBounds 9 x.vv,defers := [] } ∧ ((∃ v,SdI w3 B7 pre v W) ∧ pre.map Pr.ent = t.ents.take pre.length) ∧ Yv w3.heap.size out pre x W ∧ W.heap[p]? = some (.cells (brow x.key) 31 (0,0)))
  (fun pre x a W l o o' h hl hW ho => by
   obtain ⟨p,h1,h2,h3,h4⟩:=h
   refine ⟨p,h1,⟨h2.1.imp fun v hv => hv.turn (grownBy_putObj' _ l o') (fun k hk => by cases hk; exact ⟨hl,_,hW,ho⟩) A3.out.2.2.1,h2.2⟩,h3.put hW ho,?_⟩
   by_cases e:l = p
   · subst e
     rw [h4] at hW
     cases hW
     cases ho
   exact (World.putObj_heap_other (Ne.symm e)).trans h4) ?assign ?body ?done ?stop
 case assign =>
  intro l0 pre x W hI hY hlt
  obtain ⟨K,hK⟩:∃ K,K = brow x.key:=⟨_,rfl⟩
  have hKs:K.size = 32:=by obtain ⟨y,_,_,h,_⟩:=hY; rw [hK,brow_size,h]
  have HK:=(hIq hKs (by rw [hK]; exact brow_one _:∀ v ∈ K.toList,v.oneCell' = true))
  have hfin:KeepsOthers W ((W.alloc (.cells Z 31)).setRow W.heap.size K) ∧ BelG w3.heap.size (fun k => k = B7) W ((W.alloc (.cells Z 31)).setRow W.heap.size K) ∧ (∃ v,SdI w3 B7 pre v ((W.alloc (.cells Z 31)).setRow W.heap.size K)) ∧ Yv w3.heap.size out pre x ((W.alloc (.cells Z 31)).setRow W.heap.size K) ∧ ((W.alloc (.cells Z 31)).setRow W.heap.size K).heap[W.heap.size]? = some (.cells K 31 (0,0)):=by
   have a:Adds W ((W.alloc (.cells Z 31)).setRow W.heap.size K):=((Ch.refl _ _).alloc _).setRow (.inr (Nat.le_refl _)) _
   exact ⟨keeps_of a (fun _ => fEq),a.mono (fun _ _ h => h.elim),hI.1.imp fun v hv => hv.keep a,hY.keep a,row_setRow_same (heap_alloc_new _ _) _⟩
  have HF2:=(hIq hfin hI.2)
  have HKK:=Lib.hid hK
  dsimp only
  rw [← hK]
  clear hfin hI hY hK hKs
  rw [zip_two]
  rw [hA0]
  clear hA0
  simp only [List.setIfInBounds_toArray,List.set_cons_succ,List.set_cons_zero]
  gi_wp2_with (first
   | fail
   | ((with_reducible show wpListIn _ _ _ _ _ (⟨_,.alloc 31,_,_,_,_⟩ :: _) _ _); refine wpListIn_alloc_is rfl 31 rfl (.agg Z) HZ.out.2.2 ?_; dsimp only [Value.cells]; try simp only [World.size_alloc])
   | ((with_reducible show wpListIn _ _ _ _ _ (⟨_,.store 31 _ _,_,_,_,_⟩ :: _) _ _); go_must (refine wpListIn_store_part rfl 31 _ _ rfl W.heap.size 0 K rfl rfl (heap_alloc_new _ _) (by rw [sizeP,HK.out.1]) (by rw [HK.out.1,HZ.out.2.1]; omega) HK.out.2 K (by rw [splice_all _ _ (by rw [Array.length_toList,Array.length_toList,HK.out.1,HZ.out.2.1])]) ?_)))
  refine ⟨HF2.out.1.1,HF2.out.1.2.1,W.heap.size,?_,⟨HF2.out.1.2.2.1,HF2.out.2⟩,HF2.out.1.2.2.2.1,HF2.out.1.2.2.2.2⟩
  rfl
 case body =>
  rintro l0 pre x a W ⟨p,rfl,⟨⟨v,hI⟩,hpre⟩,hY,hrow⟩ hlt
  obtain ⟨y,hy,hxe,hk32,hv1,hbr⟩:=hY
  have hE:t.ents[pre.length]? = some (x.key,x.val):=by
   rw [← HO.out.1,List.getElem?_map,hy]
   exact congrArg some hxe.symm
  have hnew:(pre ++ [x]).map Pr.ent = t.ents.take (pre ++ [x]).length:=by
   rw [List.length_append,List.length_singleton,List.take_add_one,hE,List.map_append,hpre]
   rfl
  obtain ⟨m,hm⟩:∃ m,m = pre.length:=⟨_,rfl⟩
  have hm4:m ≤ 4096:=by have:=HO.out.2.1; omega
  obtain ⟨vo,vc,rfl⟩:=hI.row.form
  obtain ⟨K,hK⟩:∃ K,K = brow x.key:=⟨_,rfl⟩
  have hKs:K.size = 32:=by rw [hK,brow_size,hk32]
  obtain ⟨xo,xc,hxv,_⟩:=hbr.bytes.form
  obtain ⟨C,hC⟩:∃ C,C = K ++ #[x.vv]:=⟨_,rfl⟩
  have hpb:=pair_built K xo x.val.length xc hKs
  rw [← hxv, ← hC] at hpb
  have hCx:C = x.cells:=by
   rw [hC,hK]
   apply Array.ext'
   simp [Pr.cells,brow]
  have hCs:C.size = 33:=by rw [hC,Array.size_append,hKs]; rfl
  have hC1:∀ u ∈ C.toList,u.oneCell' = true:=by rw [hCx]; exact Pr.one (w:=W) ⟨hk32,hbr.bytes,fun _ q hq => (hbr.lt q hq).2⟩
  rw [hxv] at hpb
  have c7:=row_cell hI.r7 (i:=0) rfl
  have f7:=row_free hI.r7 0
  have l7:=row_lt hI.r7
  rw [← hK] at hrow
  rw [← hm] at c7
  have hownW:=hI.row
  unfold RowP at hownW
  rw [← hm] at hownW
  have HC:=(hIq hCx (aIq hCs (aIq hC1 hpb)))
  have HX:=(hIq hk32 (aIq hbr (aIq hnew hm)))
  have HII:=(hIq hI (aIq hrow hownW))
  have HKS:=(hIq hKs hK)
  rw [← hK]
  rw [hA0]
  clear hA0 hy hxe hv1 hE hnew hpre hK hKs hC hpb hCx hCs hC1 hrow hownW hlt hI hbr hm hk32
  rw [hxv]
  simp only [List.setIfInBounds_toArray,List.set_cons_succ,List.set_cons_zero]
  gi_wp2_with (first
   | fail
   | ((with_reducible show wpListIn _ _ _ _ _ (⟨_,.load 31 _,_,_,_,_⟩ :: _) _ _); refine wpListIn_load_part rfl 31 _ rfl p 0 rfl HII.out.2.1 Tryz.underlying31 rfl sizeP (by rw [HKS.out.1]; omega) K (by have:=HKS.out.1; simp [← this]) ?_)
   | ((with_reducible show wpListIn _ _ _ _ _ (⟨_,.build 159 _,_,_,_,_⟩ :: _) _ _); refine wpListIn_build_two rfl 159 0 1 _ _ rfl (.agg K) (.slice xo x.val.length xc) rfl rfl C HC.out.2.2.2 ?_)
   | ((with_reducible show wpListIn _ _ _ _ _ (⟨_,.buildSlice 63 _ _,_,_,_,_⟩ :: _) _ _); refine wpListIn_buildSlice_one rfl 63 _ rfl 159 i0 z0 (.agg C) rfl Tryz.underlying63 HI.out.1 HI.out.2.1 (by rw [HI.out.2.2.1]; decide) (by rw [HI.out.2.2.1]; decide) (by rw [HI.out.2.2.1]; exact HC.out.2.1) ?_)
   | (refine wpListIn_append_mine rfl _ _ 63 rfl 159 i0 z0 33 56 Tryz.underlying63 HI.out.1 HI.out.2.1 HI.out.2.2.1 HI.out.2.2.2.1 HI.out.2.2.2.2 (by decide) (.slice vo m vc) m (flatP pre) rfl ((((Ch.refl (fun _ => False) W).alloc (.cells C 159)).owns HII.out.2.2 (fun _ _ h => h)).base (fun _ _ => Nat.zero_le _)) ⟨W.heap.size,0,none⟩ 1 1 C.toList rfl (by rw [Array.length_toList,HC.out.2.1]) (row_news (heap_alloc_new W (.cells C 159))) HC.out.2.2.1 (by unfold maxLen; omega) (by omega) ?_; intro v' w4 own' grow' loc'; obtain ⟨o8,c8,rfl⟩:=owns_form own'; have d7:w4.heap[B7]? = some (.cells #[.slice vo m vc] 63 (0,0)):=(grow'.block B7 (by simp; omega) (fun e => by have:=(HII.out.2.2.lt B7 e.symm).1; have:=A3.out.2.2.1; omega)).trans (row_alloc (by have:=HII.out.1.r7; rw [← HX.out.2.2.2] at this; exact this) _); have q7:=row_cell d7 (i:=0) rfl; have qf:=row_free d7 0; have ql:=row_lt d7; have H4:=(hIq own' (aIq grow' loc')); clear own' grow' loc' d7))
  have hp:=HII.out.1.push A3.out.2.2.1 (x:=x) ((Ch.refl (fun _ => False) W).alloc (.cells C 159)) HX.out.1 rfl (HX.out.2.1.keep ((Ch.refl (fun _ => False) W).alloc (.cells C 159)) (fun _ _ h => h)) (by rw [← HX.out.2.2.2, ← HC.out.1]; exact H4.out.1) (by rw [← HX.out.2.2.2]; exact H4.out.2.1) (by rw [← HX.out.2.2.2]; exact H4.out.2.2)
  rw [← HX.out.2.2.2] at hp
  refine ⟨keeps_of hp.2 (fun k hk => ?_),hp.2.mono (fun k hk h => ?_),⟨_,hp.1⟩,HX.out.2.2.1⟩
  · rcases hk with rfl | hk
    · exact ⟨_,_,_,HII.out.1.r7⟩
    obtain ⟨cur,hcur⟩:=owns_cells HII.out.2.2 hk
    exact ⟨_,_,_,hcur⟩
  rcases h with h | h
  · exact .inr h
  exact .inl (HII.out.2.2.lt k h).1
 case done =>
  intro D xs W hD hS hI hK
  obtain ⟨⟨v,hv⟩,_⟩:=hI
  have hxs:xs.map Pr.ent = t.ents:=hS.trans HO.out.1
  have hgood:∀ x ∈ xs,x.Good W:=fun x hx => ⟨(hv.vals x hx).1,(hv.vals x hx).2.bytes,fun _ k hk => ((hv.vals x hx).2.lt k hk).2⟩
  obtain ⟨ao,cap,rfl,hpa⟩:=row_pairs hv.row hgood
  have c7:=row_cell hv.r7 (i:=0) rfl
  have hrt:=Law9.Root_ok (w:=W) cap hpa
  have hfine:FineP xs:=by
   refine ⟨?_,fun x hx => ?_,?_⟩
   · have h1:=congrArg List.length hxs
     rw [List.length_map] at h1
     have:=HT.out.2.2
     omega
   · exact (HT.out.1 _ (by rw [← hxs]; exact List.mem_map_of_mem hx)).2
   have h1:xs.map (·.key) = t.ents.map Prod.fst:=by rw [← hxs,List.map_map]; rfl
   rw [h1]
   exact List.pairwise_map.2 (HT.out.2.1.imp fun {a b} h e => by
    unfold Ltk at h
    rw [e,cmp_self] at h
    omega)
  have aW:Adds w W:=A3.out.1.trans hv.ch (fun k hk => .inr (by rw [hk]; exact A3.out.2.2.2.1))
  have hDw:w.heap.size ≤ D:=Nat.le_trans A3.out.1.size hD
  obtain ⟨n,hn⟩:∃ n,n = xs.length:=⟨_,rfl⟩
  rw [← hn] at hrt c7
  have AW:=(hIq aW (aIq hK (aIq hDw hD)))
  have HRT:=Lib.hid hrt
  have HFI:=(hIq hfine hxs)
  rw [hA0]
  clear hA0 hv hK hD hrt hpa hgood hfine hxs hS aW hDw hn
  go_wp2_with fail
  refine HRT.out.mono ?_; rintro e W2 ⟨a2,hb,c,rfl,hb1,hfi,hfd⟩
  obtain rfl:c = 0:=hfi.2 HFI.out.1
  have hbe:hb = (tree 256 t.ents).dig:=by rw [hfd HFI.out.1,HFI.out.2]
  rw [hbe, ← HE.out.2]
  have hK2:W2.heap[D]? = some (.deferred (some [])):=a2.row AW.out.2.1 id
  have A2':=(hIq (AW.out.1.trans a2 (fun _ => fEq)) (aIq hK2 a2.size))
  clear a2 hfi hfd hbe hb1 hK2 c7 HRT
  go_upto_region 11 with (first
   | fail
   | ((with_reducible show zOq (.alloc 118)); refine wpList_alloc_is rfl 118 rfl (.agg Z) HZ.out.1 ?_; dsimp only [Value.cells]; try simp only [World.size_alloc])
   | ((with_reducible show zOq (.store 118 _ _)); refine wpList_store_part rfl 118 _ _ rfl W2.heap.size 0 E rfl rfl (heap_alloc_new _ _) (by rw [sizeH,HE.out.1.1]) (by rw [HE.out.1.1,HZ.out.2.1]; omega) HE.out.1.2 E (by rw [splice_all _ _ (by rw [Array.length_toList,Array.length_toList,HE.out.1.1,HZ.out.2.1])]) ?_))
  obtain ⟨w4,hw4⟩:∃ w4,w4 = (W2.alloc (.cells Z 118)).setRow W2.heap.size E:=⟨_,rfl⟩
  rw [← hw4]
  have a4:Adds W2 w4:=by rw [hw4]; exact ((Ch.refl _ _).alloc _).setRow (.inr (Nat.le_refl _)) _
  have r4:w4.heap[W2.heap.size]? = some (.cells E 118 (0,0)):=by rw [hw4]; exact row_setRow_same (heap_alloc_new _ _) _
  obtain ⟨B,hB⟩:∃ B,B = W2.heap.size:=⟨_,rfl⟩
  rw [← hB] at r4 ⊢
  have H4:=(hIq (A2'.out.1.trans a4 (fun _ => fEq)) (aIq r4 (a4.row A2'.out.2.1 id)))
  have H4D:RowKit.Hid (Adds w w4.drew):=Lib.hid (H4.out.1.trans (Ch.refl (fun _ => False) w4).drew (fun _ => fEq))
  clear a4 r4 hw4 hB
  go_wp2
  refine wp_region_plan (fun wz => Adds w wz ∧ wz.heap[B]? = some (.cells E 118 (0,0)) ∧ wz.heap[D]? = some (.deferred (some []))) 11 [(0,false),(1,false),(2,false),(3,false),(4,false),(5,false),(6,true),(7,false),(8,false),(9,false),(10,false)] (by kernel_rfl) (by kernel_rfl) ?_ ?_
  · exact ⟨H4D.out,row_drew H4.out.2.1,row_drew H4.out.2.2⟩
  iterate 3
   refine plan_look rfl rfl (fun w0 hS => (by clear hS; go_simp; try rfl)) ?_
   simp only [Act.put,nAq,nBq,nCq]
  refine Law9.plan_gload_part (cur:=E) (t:=118) (fr:=(0,0)) rfl rfl 118 _ rfl B 0 32 rfl (fun w0 hS => hS.2.1) Tryz.underlying118 rfl sizeH (by rw [HE.out.1.1]; omega) E (by have:=HE.out.1.1; simp [← this]) ?_
  simp only [Act.put,nAq,nBq,nCq]
  iterate 2
   refine plan_look rfl rfl (fun w0 hS => (by clear hS; go_simp; try rfl)) ?_
   simp only [Act.put,nAq,nBq,nCq]
  refine plan_do rfl ?_
  go_wp2_with fail
  refine (HQ.out.2.2.2 _ H4D.out).mono ?_; rintro e w5 ⟨rfl,a5⟩
  have H5:=(hIq (H4D.out.trans a5 (fun _ => fEq)) (aIq (a5.row (row_drew H4.out.2.1) id) (a5.row (row_drew H4.out.2.2) id)))
  clear a5
  dsimp only
  go_step
  refine wpList_nil ?_
  change _ ∧ _
  refine ⟨H5.out,?_⟩
  refine plan_look (v:=.bool true) rfl rfl (fun w0 hS => (by clear hS; have:=heq w0; go_simp; try rfl)) ?_
  simp only [Act.put,nAq,nBq,nCq]
  iterate 3
   refine plan_look rfl rfl (fun w0 hS => (by clear hS; go_simp; try rfl)) ?_
   simp only [Act.put,nAq,nBq,nCq]
  refine plan_end ?_; simp only [List.drop_succ_cons,List.drop_zero]
  go_wp2
  refine NoPanic.normal ?_
  go_wp2
  refine ⟨by simp,.inl ⟨_,_,rfl,run_takeDeferred H5.out.2.2,?_⟩⟩
  refine ⟨.tuple #[.bool true,.int .i64 0],?_,rfl,H5.out.1.grown (grownBy_putObj' _ D (.deferred none)) (fun k hk => .inr (by cases hk; exact AW.out.2.2.1))⟩
  simp [results,Tryz.f44,go_sem]
 intro D c pre W hD hS hI; exact hI.elim
end
end Go.Proofs.YtmeglndnkdgkoaaGreat.Store
namespace Go.Proofs.YtmeglndnkdgkoaaGreat.Store
open Go.RowKit Go.Sort Go.Proofs.YtmeglndnkdgkoaaGreat.ShaW Go.Proofs.YtmeglndnkdgkoaaGreat.Path
def advIA (a:Option Addr) (cap i:Nat):Option Addr:=if cap = i then a else a.map (·.add (i * 1))
theorem sizeIntA:(Tryz.prog.info? (Tryz.prog.elem 43)).map (·.size) = some 1:=by kernel_rfl
theorem sliceIntA:Tryz.prog.underlying 43 = some (.slice (Tryz.prog.elem 43)):=by kernel_rfl
theorem sizeOfIntA (w:World):(sizeOf (Tryz.prog.elem 43)).run Tryz.prog w = .ok 1 w:=by
 have hs:=sizeIntA
 cases hq:Tryz.prog.info? (Tryz.prog.elem 43) with
 | none => rw [hq] at hs; cases hs
 | some inf =>
  rw [hq] at hs
  have hs':inf.size = 1:=by simpa using hs
  simp [sizeOf,typeInfo,hq,hs']
theorem runA_l (w:World) (ao:Option Addr) (len cap i:Nat) (hi:i ≤ len) :
 (Instr.sliceAt 43 (.slice ao len cap) (some (.int .i64 (i:Int))) none none).run Tryz.prog w = .ok (.slice (advIA ao cap i) (len - i) (cap - i)) w:=by
 rw [run_sliceAt_slice w _ _ _ _ _ sliceIntA,run_slice_l w _ ao len cap sliceIntA .i64 (i:Int) (by omega) (by omega)]
 simp only [sizeOfIntA w,Result.andThen_ok,sliced,Int.toNat_natCast]
 rfl
theorem runA_h (w:World) (ao:Option Addr) (len cap i:Nat) (hi:i ≤ cap) :
 (Instr.sliceAt 43 (.slice ao len cap) none (some (.int .i64 (i:Int))) none).run Tryz.prog w = .ok (.slice ao i cap) w:=by
 rw [run_sliceAt_slice w _ _ _ _ _ sliceIntA,run_slice_h w _ ao len cap sliceIntA .i64 (i:Int) (by omega) (by omega)]
 have e:(Value.slice (if cap = 0 then ao else ao.map (·.add (0 * 1))) (i - 0) (cap - 0)) = .slice ao i cap:=by
  rw [Nat.zero_mul,Nat.sub_zero,Nat.sub_zero]
  congr 1
  split
  · rfl
  cases ao <;> rfl
 simp only [sizeOfIntA w,Result.andThen_ok,sliced,Int.toNat_natCast,e]
theorem IntsAt.take {w:World} {ao:Option Addr} {l:List Int} (h:IntsAt w ao l) (n:Nat):IntsAt w ao (l.take n):=fun i x hi => by
 rw [List.getElem?_take] at hi
 split at hi
 · exact h i x hi
 cases hi
theorem IntsAt.drop {w:World} {ao:Option Addr} {l:List Int} (h:IntsAt w ao l) (n cap:Nat) (hc:l.length ≤ cap):IntsAt w (advIA ao cap n) (l.drop n):=fun i x hi => by
 rw [List.getElem?_drop] at hi
 obtain ⟨g,off,rfl,hp⟩:=h _ x hi
 have hn:n + i < l.length:=(List.getElem?_eq_some_iff.1 hi).1
 refine ⟨g,off + n,?_,by rw [show off + n + i = off + (n + i) by omega]; exact hp⟩
 unfold advIA
 rw [if_neg (by omega)]
 simp [add_plain]
theorem int_infoA:∃ i,Tryz.prog.info? 3 = some i ∧ i.zero = some (.int .i64 0) ∧ i.size = 1 ∧ i.bytes = 8:=by
 obtain ⟨i,h1,h2⟩:=Option.map_eq_some_iff.1 (by kernel_rfl:(Tryz.prog.info? 3).map (fun i => (i.zero,i.size,i.bytes)) = some (some (.int .i64 0),1,8))
 simp only [Prod.mk.injEq] at h2
 exact ⟨i,h1,h2.1,h2.2.1,h2.2.2⟩
theorem wpList_append_ints {w:World} {ops:Array Oper} {rest:List Oper} {o:Oper} {a:Act} {Q:Exit → Act → World → Prop} (hgd:o.guard = none) (s x:Operand)
 (ho:o.op = .call { callee:=.builtin .append,args := #[s,x],argTypes := #[43,43] }) (v:Value) (n:Nat) (xs:List Int) (hs:a.eval s = v) (hown:w.ownsRow 0 3 1 v n (intL xs))
 (ao:Option Addr) (m c:Nat) (l:List Int) (hx:a.eval x = .slice ao m c) (hI:IntsAt w ao l) (hm:l.length = m) (hb:n + m ≤ 1000000)
 (h:∀ v' w',w'.ownsRow 0 3 1 v' (n + m) (intL (xs ++ l)) → w.grownBy w' v.ownBlock → (v'.ownBlock = v.ownBlock ∨ ∀ k,v'.ownBlock = some k → w.heap.size ≤ k) → wpList Tryz.prog ops Q rest (a.put o.dst v') w'):wpList Tryz.prog ops Q (o :: rest) a w:=by
 obtain ⟨i0,p1,p2,p3,p4⟩:=int_infoA
 rcases Nat.eq_zero_or_pos m with h0 | h0
 · have hnil:l = []:=List.eq_nil_of_length_eq_zero (by omega)
   subst hnil
   subst h0
   obtain ⟨base,cap,e,hle⟩:∃ base cap,v = .slice base n cap ∧ n ≤ cap:=by
    rcases hown.2 with ⟨rfl,h1⟩ | ⟨g,cap,cur,rfl,_,_,h3,_⟩
    · exact ⟨none,0,by rw [h1],by omega⟩
    exact ⟨_,cap,rfl,h3⟩
   have hsrc:Src Tryz.prog i0.size 43 (.slice ao 0 c) 0 [] w:=by
    cases ao with
    | none => exact Src.ofNil w Tryz.underlying43 c
    | some ad => exact Src.ofSlice w Tryz.underlying43 ad 0 c [] (by simp) (fun j u hu => by simp at hu) (fun u hu => by cases hu)
   refine wpList_plain hgd fun _ hK => ?_
   have hrun:=run_append_nothing (P:=Tryz.prog) w 43 43 o.type 3 i0 Tryz.underlying43 p1 base n cap hle _ hsrc
   subst e
   unfold Oper.wp
   simp [execOp,ho,resolve,invoke,builtin,hs,hx,hrun,Result.andThen]
   exact hK _ _ (h _ w (by rw [List.append_nil]; exact hown) ⟨rfl,rfl,rfl,Nat.le_refl _,fun _ _ _ => rfl⟩ (.inl rfl))
 obtain ⟨g,off,rfl,_⟩:=hI 0 l[0] (List.getElem?_eq_getElem (by omega))
 refine wpList_append_mine hgd s x 43 ho 3 i0 (.int .i64 0) 1 8 Tryz.underlying43 p1 p2 p3 p4 rfl (by decide) v n (intL xs) hs hown ⟨g,off,none⟩ m c (intL l) hx (by simp [intL,hm]) (fun j u hu => ?_) (fun u hu => ?_) (by unfold maxLen; omega) (by omega) ?_
 · unfold intL at hu
   rw [List.getElem?_map] at hu
   cases hj:l[j]? with
   | none => rw [hj] at hu; cases hu
   | some y =>
    rw [hj] at hu
    obtain rfl:=Option.some.inj hu
    obtain ⟨g',off',e,hc⟩:=hI j y hj
    cases e
    rw [add_plain]
    exact hc
 · unfold intL at hu
   obtain ⟨y,_,rfl⟩:=List.mem_map.1 hu
   rfl
 intro v' w' q1 q2 q3
 exact h v' w' (by unfold intL at *; rw [List.map_append]; exact q1) q2 q3
theorem empty_row (w:World):(w.alloc (.cells #[] 3)).ownsRow 0 3 1 (.slice (some ⟨w.heap.size,0,none⟩) 0 0) 0 (intL []) :=
 ⟨by simp [intL],.inr ⟨w.heap.size,0, #[],rfl,Nat.zero_le _,heap_alloc_new _ _,Nat.le_refl _,Nat.zero_le _,rfl,by simp [intL]⟩⟩
theorem owns_based {w w':World} {e b sz n:Nat} {v v':Value} {xs:List Value} (own:w'.ownsRow 0 e sz v' n xs) (hlow:∀ k,v.ownBlock = some k → b ≤ k) (hb:b ≤ w.heap.size) (loc:v'.ownBlock = v.ownBlock ∨ ∀ k,v'.ownBlock = some k → w.heap.size ≤ k):w'.ownsRow b e sz v' n xs :=
 own.base (fun k hk => by
  rcases loc with e | e
  · rw [e] at hk; exact hlow k hk
  have:=e k hk; omega)
end Go.Proofs.YtmeglndnkdgkoaaGreat.Store

/- Laws of the layers below. -/
import Derived.Test.YtmeglndnkdgkoaaGreatQf28
set_option maxHeartbeats 3200000
set_option maxRecDepth 100000
set_option linter.unusedVariables false
namespace Go.Proofs.YtmeglndnkdgkoaaGreat.Store
open Go.RowKit Go.Sort Go.Proofs.YtmeglndnkdgkoaaGreat.ShaW Go.Proofs.YtmeglndnkdgkoaaGreat.Path
theorem part_arr {P:Program} {w:World} {e:TypeId} {N C:Array Value} {off n:Nat} (ha:(isAgg e).run P w = .ok true w) (hs:(Go.sizeOf e).run P w = .ok n w) (hv:N.extract off (off + n) = C):(Go.part e N off).run P w = .ok (.agg C) w:=by
 unfold Go.part
 simp only [Sem.run_bind,Result.andThen_ok,ha]
 simp [hv,hs,go_sem]
theorem part_one {P:Program} {w:World} {e:TypeId} {N:Array Value} {off:Nat} {v:Value} (ha:(isAgg e).run P w = .ok false w) (hv:N[off]? = some v):(Go.part e N off).run P w = .ok v w:=by
 unfold Go.part
 simp only [Sem.run_bind,Result.andThen_ok,ha,hv]
 simp [go_sem]
theorem eqFields_true {P:Program} {w:World} {d:Nat} {xs ys:Array Value}:∀ (fs:List Field),(∀ f ∈ fs,∃ a b,(Go.part f.type xs f.offset).run P w = .ok a w ∧ (Go.part f.type ys f.offset).run P w = .ok b w ∧ (Op.equalIn d f.type a b).run P w = .ok true w) → (Op.eqFields d xs ys fs).run P w = .ok true w
 | [],_ => by simp [Op.eqFields]
 | f :: fs,h => by
  obtain ⟨a,b,h1,h2,h3⟩:=h f (List.mem_cons_self ..)
  have ih:=eqFields_true (P:=P) (w:=w) (d:=d) (xs:=xs) (ys:=ys) fs (fun g hg => h g (List.mem_cons_of_mem _ hg))
  unfold Op.eqFields
  split
  · simp only [Sem.run_bind,h1,Result.andThen_ok,h2,h3]
    simpa using ih
  exact ih
theorem node_fieldsE:(Tryz.prog.fieldsOf 212).toList.map (fun f => (f.type,f.offset)) = [(121,0),(31,1),(118,33),(118,65),(118,97)]:=by kernel_rfl
theorem node_eql {X:Array Value} {k:Int} {a b c d:List UInt8} (h0:X[0]? = some (.int .u8 k)) (h1:X.extract 1 33 = brow a) (h2:X.extract 33 65 = brow b) (h3:X.extract 65 97 = brow c) (h4:X.extract 97 129 = brow d) (ha:a.length = 32) (hb:b.length = 32) (hc:c.length = 32) (hd:d.length = 32) (w:World) :
 (Go.binOp BinOp.eql 212 (.agg X) (.agg X)).run Tryz.prog w = .ok (.bool true) w:=by
 obtain ⟨i,hi⟩:∃ i,Tryz.prog.info? 5 = some i:=Option.isSome_iff_exists.1 (by kernel_rfl)
 have hP:∀ (l:List UInt8),l.length = 32 → (Op.equalIn 9999 31 (.agg (brow l)) (.agg (brow l))).run Tryz.prog w = .ok true w:=fun l hl => by
  have:=run_equal_bytes w 31 5 32 .u8 i Tryz.underlying31 hi (by kernel_rfl) (by kernel_rfl) Tryz.underlying5 9997 l l hl hl
  simpa using this
 have hH:∀ (l:List UInt8),l.length = 32 → (Op.equalIn 9999 118 (.agg (brow l)) (.agg (brow l))).run Tryz.prog w = .ok true w:=fun l hl => by
  have:=run_equal_bytes w 118 5 32 .u8 i Tryz.underlying118 hi (by kernel_rfl) (by kernel_rfl) Tryz.underlying5 9997 l l hl hl
  simpa using this
 have sP:(Go.sizeOf 31).run Tryz.prog w = .ok 32 w:=by
  obtain ⟨j,hj,hs⟩:=Option.map_eq_some_iff.1 sizeP
  have:=run_sizeOf (P:=Tryz.prog) w hj
  rw [show Tryz.prog.cellsOf 31 = 32 by kernel_rfl] at this
  exact this
 have sH:(Go.sizeOf 118).run Tryz.prog w = .ok 32 w:=by
  obtain ⟨j,hj,hs⟩:=Option.map_eq_some_iff.1 sizeH
  have:=run_sizeOf (P:=Tryz.prog) w hj
  rw [show Tryz.prog.cellsOf 118 = 32 by kernel_rfl] at this
  exact this
 rw [run_eql_struct,run_equalIn_struct w 9999 _ X X (by have h:=Tryz.underlying212; simp only [Program.fieldsOf,h]) (by kernel_rfl)]
 rw [eqFields_true (P:=Tryz.prog) (w:=w) (d:=9999) (xs:=X) (ys:=X) _ (fun f hf => ?_)]
 · rfl
 have hm:(f.type,f.offset) ∈ (Tryz.prog.fieldsOf 212).toList.map (fun f => (f.type,f.offset)):=List.mem_map.2 ⟨f,hf,rfl⟩
 rw [node_fieldsE] at hm
 generalize f.type = ft,f.offset = fo at hm ⊢
 simp only [List.mem_cons,Prod.mk.injEq,List.not_mem_nil,or_false] at hm
 rcases hm with ⟨rfl,rfl⟩ | ⟨rfl,rfl⟩ | ⟨rfl,rfl⟩ | ⟨rfl,rfl⟩ | ⟨rfl,rfl⟩
 · have hp:=part_one (P:=Tryz.prog) (w:=w) (e:=121) (N:=X) (off:=0) (by kernel_rfl) h0
   exact ⟨_,_,hp,hp,by rw [run_equalIn_int w 9998 121 .u8 .u8 k k Tryz.underlying121]; simp⟩
 · have hp:=part_arr (P:=Tryz.prog) (w:=w) (e:=31) (N:=X) (off:=1) (by kernel_rfl) sP h1
   exact ⟨_,_,hp,hp,hP a ha⟩
 · have hp:=part_arr (P:=Tryz.prog) (w:=w) (e:=118) (N:=X) (off:=33) (by kernel_rfl) sH h2
   exact ⟨_,_,hp,hp,hH b hb⟩
 · have hp:=part_arr (P:=Tryz.prog) (w:=w) (e:=118) (N:=X) (off:=65) (by kernel_rfl) sH h3
   exact ⟨_,_,hp,hp,hH c hc⟩
 have hp:=part_arr (P:=Tryz.prog) (w:=w) (e:=118) (N:=X) (off:=97) (by kernel_rfl) sH h4
 exact ⟨_,_,hp,hp,hH d hd⟩
def nodeL (k:Nat) (a b c d:List UInt8):List Value:=.int .u8 (k:Nat) :: (a.map bv ++ (b.map bv ++ (c.map bv ++ d.map bv)))
def nodeA (k:Nat) (a b c d:List UInt8):Array Value:=(nodeL k a b c d).toArray
theorem nodeZ_A:nodeZ = nodeA 0 Nd.z32 Nd.z32 Nd.z32 Nd.z32:=by kernel_rfl
theorem nodeA_size {k:Nat} {a b c d:List UInt8} (ha:a.length = 32) (hb:b.length = 32) (hc:c.length = 32) (hd:d.length = 32):(nodeA k a b c d).size = 129:=by simp [nodeA,nodeL,ha,hb,hc,hd]
theorem nodeA_one (k:Nat) (a b c d:List UInt8):∀ v ∈ (nodeA k a b c d).toList,v.oneCell' = true:=fun v hv => by
 simp only [nodeA,nodeL,List.mem_cons,List.mem_append,List.mem_map] at hv
 rcases hv with rfl | ⟨_,_,rfl⟩ | ⟨_,_,rfl⟩ | ⟨_,_,rfl⟩ | ⟨_,_,rfl⟩ <;> rfl
theorem node_same {k:Nat} {a b c d:List UInt8} (ha:a.length = 32) (hb:b.length = 32) (hc:c.length = 32) (hd:d.length = 32) (w:World) :
 (Go.binOp BinOp.eql 212 (.agg (nodeA k a b c d)) (.agg (nodeA k a b c d))).run Tryz.prog w = .ok (.bool true) w:=by
 have ex:∀ (p q s:List Value) (n m:Nat),p.length = n → q.length = m - n → ((p ++ (q ++ s)).toArray.extract n m) = q.toArray:=fun p q s n m hp hq => by
  apply Array.ext'
  rw [Array.toList_extract,List.extract_eq_take_drop]
  show ((p ++ (q ++ s)).drop n).take (m - n) = q
  rw [← hp,List.drop_left,hp, ← hq,List.take_left]
 refine node_eql (k:=(k:Int)) (a:=a) (b:=b) (c:=c) (d:=d) rfl ?_ ?_ ?_ ?_ ha hb hc hd w
 · exact ex [.int .u8 (k:Nat)] (a.map bv) _ 1 33 rfl (by simp [ha])
 · have:=ex (.int .u8 (k:Nat) :: a.map bv) (b.map bv) (c.map bv ++ d.map bv) 33 65 (by simp [ha]) (by simp [hb])
   exact this
 · have:=ex (.int .u8 (k:Nat) :: (a.map bv ++ b.map bv)) (c.map bv) (d.map bv) 65 97 (by simp [ha,hb]) (by simp [hc])
   rw [List.cons_append,List.append_assoc] at this
   exact this
 have:=ex (.int .u8 (k:Nat) :: (a.map bv ++ (b.map bv ++ c.map bv))) (d.map bv) [] 97 129 (by simp [ha,hb,hc]) (by simp [hd])
 rw [List.cons_append,List.append_assoc,List.append_assoc,List.append_nil] at this
 exact this
end Go.Proofs.YtmeglndnkdgkoaaGreat.Store
namespace Go.Proofs.YtmeglndnkdgkoaaGreat.Store
open Go.RowKit Go.Sort Go.Proofs.YtmeglndnkdgkoaaGreat.ShaW Go.Proofs.YtmeglndnkdgkoaaGreat.Path Go.Proofs.YtmeglndnkdgkoaaGreat.Law9
theorem wpList_build_three {P:Program} {w:World} {ops:Array Oper} {rest:List Oper} {o:Oper} {a:Act} {Q:Exit → Act → World → Prop} (hgd:o.guard = none) (t i j k:Nat) (x y z:Operand) (ho:o.op = .build t #[(i,x),(j,y),(k,z)])
 (vx vy vz:Value) (hx:a.eval x = vx) (hy:a.eval y = vy) (hz:a.eval z = vz) (cells:Array Value) (hf:P.built t [(i,vx),(j,vy),(k,vz)] = some cells) (h:wpList P ops Q rest (a.put o.dst (.agg cells)) w):wpList P ops Q (o :: rest) a w :=
 wpList_build_is hgd t #[(i,x),(j,y),(k,z)] ho cells (by simpa [hx,hy,hz] using hf) h
theorem node_fields:∃ i fs,Tryz.prog.info? 212 = some i ∧ i.zero = some (.agg nodeZ) ∧ Tryz.prog.underlying 212 = some (.struct fs) ∧
 fs.toList.mapM (fun f => (Tryz.prog.info? f.type).map fun i => (f.offset,i.size)) = some [(0,1),(1,32),(33,32),(65,32),(97,32)]:=by
 obtain ⟨i,hi⟩:∃ i,Tryz.prog.info? 212 = some i:=Option.isSome_iff_exists.1 (by kernel_rfl)
 have hz:=nodeZ_facts.1
 rw [hi] at hz
 exact ⟨i,_,hi,hz,Tryz.underlying212,by kernel_rfl⟩
theorem splice_mid {p q s v:List Value} {n:Nat} (hp:p.length = n) (hq:q.length = v.length):splice (p ++ (q ++ s)) n v = p ++ (v ++ s):=by
 unfold splice
 rw [← hp,List.take_left, ← hq,List.drop_append,Nat.add_sub_cancel_left,List.drop_of_length_le (by omega),List.nil_append,List.drop_left,List.append_assoc]
def zb:List Value:=Nd.z32.map bv
theorem zb_length:zb.length = 32:=rfl
theorem zn_list:splice nodeZ.toList 0 [Value.int .u8 1] = [Value.int .u8 1] ++ (zb ++ (zb ++ (zb ++ zb))) ∧ splice nodeZ.toList 0 [Value.int .u8 2] = [Value.int .u8 2] ++ (zb ++ (zb ++ (zb ++ zb))):=⟨by kernel_rfl,by kernel_rfl⟩
theorem built_node_leaf (K V:List UInt8) (hK:K.length = 32) (hV:V.length = 32) :
 Tryz.prog.built 212 [(0,.int .u8 1),(1,.agg (brow K)),(2,.agg (brow V))] = some (nodeA 1 K V Nd.z32 Nd.z32):=by
 obtain ⟨i,fs,h1,h2,h3,h4⟩:=node_fields
 have hzs:nodeZ.size = 129:=rfl
 unfold Program.built
 rw [h1,h3]
 simp only [h2,h4]
 show Instr.fill _ nodeZ _ = _
 rw [fill_step (off:=0) (size:=1) rfl rfl (by rw [hzs]; omega)]
 have e1:(Value.int IntKind.u8 1).cells.toList = [Value.int .u8 1]:=rfl
 rw [e1,zn_list.1]
 rw [fill_step (off:=1) (size:=32) rfl (by simp [Value.cells,brow_size,hK]) (by simp [zb_length])]
 have e2:(Value.agg (brow K)).cells.toList = K.map bv:=by simp [Value.cells,brow]
 rw [e2]
 show Instr.fill _ (splice ([Value.int .u8 1] ++ (zb ++ (zb ++ (zb ++ zb)))) 1 (K.map bv)).toArray _ = _
 rw [splice_mid (p := [Value.int .u8 1]) (n:=1) rfl (by rw [zb_length,List.length_map,hK])]
 rw [fill_step (off:=33) (size:=32) rfl (by simp [Value.cells,brow_size,hV]) (by simp [zb_length,hK])]
 have e3:(Value.agg (brow V)).cells.toList = V.map bv:=by simp [Value.cells,brow]
 rw [e3]
 show some (splice ([Value.int .u8 1] ++ (K.map bv ++ (zb ++ (zb ++ zb)))) 33 (V.map bv)).toArray = _
 rw [← List.append_assoc,splice_mid (by simp [hK]) (by rw [zb_length,List.length_map,hV]),List.append_assoc]
 rfl
theorem built_node_inner (L R:List UInt8) (hL:L.length = 32) (hR:R.length = 32) :
 Tryz.prog.built 212 [(0,.int .u8 2),(3,.agg (brow L)),(4,.agg (brow R))] = some (nodeA 2 Nd.z32 Nd.z32 L R):=by
 obtain ⟨i,fs,h1,h2,h3,h4⟩:=node_fields
 have hzs:nodeZ.size = 129:=rfl
 unfold Program.built
 rw [h1,h3]
 simp only [h2,h4]
 show Instr.fill _ nodeZ _ = _
 rw [fill_step (off:=0) (size:=1) rfl rfl (by rw [hzs]; omega)]
 have e1:(Value.int IntKind.u8 2).cells.toList = [Value.int .u8 2]:=rfl
 rw [e1,zn_list.2]
 rw [fill_step (off:=65) (size:=32) rfl (by simp [Value.cells,brow_size,hL]) (by simp [zb_length])]
 have e2:(Value.agg (brow L)).cells.toList = L.map bv:=by simp [Value.cells,brow]
 rw [e2]
 show Instr.fill _ (splice ([Value.int .u8 2] ++ (zb ++ (zb ++ (zb ++ zb)))) 65 (L.map bv)).toArray _ = _
 rw [show [Value.int .u8 2] ++ (zb ++ (zb ++ (zb ++ zb))) = ([Value.int .u8 2] ++ (zb ++ zb)) ++ (zb ++ zb) by simp only [List.append_assoc],splice_mid (by simp [zb_length]) (by rw [zb_length,List.length_map,hL])]
 rw [fill_step (off:=97) (size:=32) rfl (by simp [Value.cells,brow_size,hR]) (by simp [zb_length,hL])]
 have e3:(Value.agg (brow R)).cells.toList = R.map bv:=by simp [Value.cells,brow]
 rw [e3]
 show some (splice (([Value.int .u8 2] ++ (zb ++ zb)) ++ (L.map bv ++ zb)) 97 (R.map bv)).toArray = _
 rw [show ([Value.int .u8 2] ++ (zb ++ zb)) ++ (L.map bv ++ zb) = ([Value.int .u8 2] ++ (zb ++ (zb ++ L.map bv))) ++ (zb ++ []) by simp only [List.append_assoc,List.append_nil],splice_mid (by simp [zb_length,hL]) (by rw [zb_length,List.length_map,hR])]
 simp only [List.append_assoc,List.append_nil]
 rfl
section
variable {w w' : World} {b : Nat} {F : Nat → Prop} {ρ : Rs} {σ : SlabSt Nd}
theorem RNode_none (h:RAt w b F ρ) {n:Int} (hz0:ρ.sp n = Sp.zero):Calls Tryz.prog 158 #[.pointer (some ⟨b,0,none⟩),.int .i64 n] w fun e w' => e = .returned (.agg nodeZ) ∧ Adds w w':=by
 have hg:=fun w1 (a:Adds w w1) => Rat_ok (h.adds a) n
 rw [hz0] at hg
 obtain ⟨Z,hZ⟩:∃ Z,Z = Sp.zero.cells:=⟨_,rfl⟩
 have hzs:=zeroSp
 rw [← hZ] at hg hzs
 have k0:Z[0]? = some (.int .u8 0):=by rw [hZ]; rfl
 obtain ⟨Y,hY⟩:∃ Y,Y = nodeZ:=⟨_,rfl⟩
 have hyf:=nodeZ_facts
 have hy1:=nodeZ_one
 have hYs:nodeZ.size = 129:=rfl
 rw [← hY] at hyf hy1 hYs ⊢
 have HZ:=(hIq hzs (by rw [hZ]; exact ⟨Sp.cells_size Sp.zero_ok,Sp.cells_one Sp.zero_ok⟩:Z.size = 39 ∧ ∀ v ∈ Z.toList,v.oneCell' = true))
 have HY:=(hIq hyf (aIq hYs hy1))
 have HG:=Lib.hid hg
 have K0:=Lib.hid k0
 clear hg hz0 hZ hzs h k0 hyf hy1 hYs hY
 go_enter Tryz.func158,Tryz.ntmps158
 go_wp2_with (first | fail | ((with_reducible show zOq (.alloc 212)); refine wpList_alloc_is rfl 212 rfl (.agg Y) HY.out.1.1 ?_; dsimp only [Value.cells]; try simp only [World.size_alloc]))
 refine (HG.out _ ((Ch.refl _ _).alloc _)).mono ?_; rintro e w1 ⟨rfl,hc1⟩
 have hyr:=hc1.row (heap_alloc_new w (.cells Y 212)) id
 have c0:=row_cell (row_setRow_same (heap_alloc_new w1 (.cells Z 198)) Z) K0.out
 have C1:=Lib.hid (((Ch.refl (fun _ => False) w).alloc (.cells Y 212)).trans hc1 (fun _ => fEq))
 have hlt:=row_lt hyr
 have HY1:=Lib.hid hyr
 clear hc1 hyr
 go_wp2_with (first
  | fail
  | ((with_reducible show zOq (.alloc 198)); refine wpList_alloc_is rfl 198 rfl (.agg Z) HZ.out.1 ?_; dsimp only [Value.cells]; try simp only [World.size_alloc])
  | ((with_reducible show zOq (.store 198 _ _)); refine wpList_store_part rfl 198 _ _ rfl w1.heap.size 0 Z rfl rfl (heap_alloc_new _ _) (by rw [sizeSp,HZ.out.2.1]) (by omega) HZ.out.2.2 Z (by rw [splice_all _ _ rfl]) ?_)
  | ((with_reducible show zOq (.build 212 _)); refine wpList_build_none rfl 212 rfl Y HY.out.1.2.2 ?_)
  | ((with_reducible show zOq (.store 212 _ _)); refine wpList_store_part rfl 212 _ _ rfl w.heap.size 0 Y rfl rfl (row_setRow (row_alloc HY1.out _) (by omega) _) (by rw [HY.out.1.2.1,HY.out.2.1]) (by omega) HY.out.2.2 Y (by rw [splice_all _ _ rfl]) ?_))
 have hws:=C1.out.size
 exact bodyPost_ret_cell1 (p:=4) rfl rfl (row_setRow_same (row_setRow (row_alloc HY1.out _) (by omega) _) _) Tryz.underlying212 rfl (by rw [HY.out.1.2.1,HY.out.2.1]) rfl ⟨rfl,((C1.out.alloc _).setRow (.inr hws) _).setRow (.inr (Nat.le_refl _)) _⟩
theorem RNode_leaf (h:RAt w b F ρ) (L:Lk σ ρ) (G:Good σ) {n:Int} {s:Nd × Nat} (hs:σ.get? n = some s) (hk:s.1.kind = 1) :
 Calls Tryz.prog 158 #[.pointer (some ⟨b,0,none⟩),.int .i64 n] w fun e w' => e = .returned (.agg (nodeA 1 s.1.key s.1.hash Nd.z32 Nd.z32)) ∧ Adds w w':=by
 obtain ⟨m,x,hnm,hlt,hsm,hx,h0,hsp,hkx,hk0,hle,hri,hv,hkey,hd,ho,hos⟩:=L.some G hs
 have hok:=(h.1.nums x (List.mem_of_getElem? hx)).1
 have hel:Bytes w x.addr x.value ∧ ∀ k,x.addr.ownBlock = some k → F k:=by
  obtain ⟨_,_,_,_,_,_,h4,_⟩:=h
  exact ⟨(h4 x (List.mem_of_getElem? hx)).1,fun k hk => ((h4 x (List.mem_of_getElem? hx)).2 k hk).1⟩
 have hF:=h.lt
 have hlf:=(G.fit.leaf (sk_some hs) (by show ¬ s.1.kind = 2; omega)).2
 have hvl:s.1.value.length ≤ 1024:=hlf.value
 have hhash:s.1.hash = Tag.valueD s.1.value:=hlf.hash
 have hkl:s.1.key.length = 32:=hlf.key
 have hg:=fun w1 (a:Adds w w1) => Rat_ok (h.adds a) n
 rw [hsp] at hg
 have hvx:x.value = s.1.value:=hv
 have hkeyx:x.key = s.1.key:=hkey hk
 obtain ⟨N,hN⟩:∃ N,N = x.cells:=⟨_,rfl⟩
 have hNs:N.size = 39 ∧ ∀ v ∈ N.toList,v.oneCell' = true:=by rw [hN]; exact ⟨Sp.cells_size hok,Sp.cells_one hok⟩
 have k0:N[0]? = some (.int .u8 1):=by rw [hN,Sp.at_kind,hkx,hk]; rfl
 have k34:=Sp.at_addr hok
 have kk:=Sp.at_key hok
 rw [← hN] at hg k34 kk
 obtain ⟨hby,hbk⟩:=hel
 obtain ⟨ao,vc,hvf,_,_⟩:=hby.form
 obtain ⟨vn,hvn⟩:∃ vn,vn = x.value.length:=⟨_,rfl⟩
 rw [← hvn] at hvf
 rw [hvf] at k34 hby hbk
 obtain ⟨Z,hZ⟩:∃ Z,Z = Sp.zero.cells:=⟨_,rfl⟩
 have hzs:=zeroSp
 rw [← hZ] at hzs
 obtain ⟨Y,hY⟩:∃ Y,Y = nodeZ:=⟨_,rfl⟩
 have hyf:=nodeZ_facts
 have hYs:nodeZ.size = 129:=rfl
 rw [← hY] at hyf hYs
 obtain ⟨O,hO⟩:∃ O,O = nodeA 1 s.1.key s.1.hash Nd.z32 Nd.z32:=⟨_,rfl⟩
 have hhl:s.1.hash.length = 32:=by rw [hhash]; exact Tag.digest_length _ _
 have hOs:O.size = 129 ∧ ∀ v ∈ O.toList,v.oneCell' = true:=by rw [hO]; exact ⟨nodeA_size hkl hhl rfl rfl,nodeA_one _ _ _ _ _⟩
 have hbt:=built_node_leaf s.1.key s.1.hash hkl hhl
 obtain ⟨K,hK⟩:∃ K,K = brow s.1.key:=⟨_,rfl⟩
 obtain ⟨D,hD⟩:∃ D,D = brow s.1.hash:=⟨_,rfl⟩
 rw [hkeyx, ← hK] at kk
 rw [← hO, ← hK, ← hD] at hbt
 have hval:∀ w1,Adds w w1 → Calls Tryz.prog 193 #[.slice ao vn vc] w1 fun e w' => e = .returned (.agg D) ∧ Adds w1 w':=fun w1 a => by
  rw [hD,hhash, ← hvx]
  exact RValueD_ok (hby.keep a (fun _ _ h => h)) (fun h0 k hk => Nat.lt_of_lt_of_le (hF k (hbk k hk)) a.size) (by rw [hvx]; omega)
 rw [← hO]
 have HG:=Lib.hid hg
 have HN:=(hIq hNs (aIq k0 (aIq k34 kk)))
 have HZ:=(hIq hzs (by rw [hZ]; exact Sp.cells_size Sp.zero_ok:Z.size = 39))
 have HY:=(hIq hyf hYs)
 have HO:=(hIq hOs hbt)
 have HV:=Lib.hid hval
 clear hg hNs k0 k34 kk hzs hZ hyf hYs hY hOs hbt hval hO hK hD hN hby hbk hvf hvn hhl hkl hhash hvl hlf hF hok hx hsm hlt h0 hsp hkx hk0 hle hri hv hkey hd ho hos hvx hkeyx h hs hk hnm
 go_enter Tryz.func158,Tryz.ntmps158
 go_wp2_with (first | fail | ((with_reducible show zOq (.alloc 212)); refine wpList_alloc_is rfl 212 rfl (.agg Y) HY.out.1.1 ?_; dsimp only [Value.cells]; try simp only [World.size_alloc]))
 refine (HG.out _ ((Ch.refl _ _).alloc _)).mono ?_; rintro e w1 ⟨rfl,hc1⟩
 have hyr:=hc1.row (heap_alloc_new w (.cells Y 212)) id
 have c0:=row_cell (row_setRow_same (heap_alloc_new w1 (.cells Z 198)) N) HN.out.2.1
 have C1:=Lib.hid (((Ch.refl (fun _ => False) w).alloc (.cells Y 212)).trans hc1 (fun _ => fEq))
 have hlt:=row_lt hyr
 have HY1:=Lib.hid hyr
 clear hc1 hyr
 go_upto_region 3 with (first
  | fail
  | ((with_reducible show zOq (.alloc 198)); refine wpList_alloc_is rfl 198 rfl (.agg Z) HZ.out.1 ?_; dsimp only [Value.cells]; try simp only [World.size_alloc])
  | ((with_reducible show zOq (.store 198 _ _)); refine wpList_store_part rfl 198 _ _ rfl w1.heap.size 0 N rfl rfl (heap_alloc_new _ _) (by rw [sizeSp,HN.out.1.1]) (by rw [HN.out.1.1,HZ.out.2]; omega) HN.out.1.2 N (by rw [splice_all _ _ (by rw [Array.length_toList,Array.length_toList,HN.out.1.1,HZ.out.2])]) ?_))
 have r1:((w1.alloc (.cells Z 198)).setRow w1.heap.size N).heap[w1.heap.size]? = some (.cells N 198 (0,0)):=row_setRow_same (heap_alloc_new _ _) _
 have r2:((w1.alloc (.cells Z 198)).setRow w1.heap.size N).heap[w.heap.size]? = some (.cells Y 212 (0,0)):=row_setRow (row_alloc HY1.out _) (by omega) _
 have a2:Adds w ((w1.alloc (.cells Z 198)).setRow w1.heap.size N):=(C1.out.alloc _).setRow (.inr C1.out.size) _
 obtain ⟨w2,hw2⟩:∃ w2,w2 = (w1.alloc (.cells Z 198)).setRow w1.heap.size N:=⟨_,rfl⟩
 obtain ⟨B,hB⟩:∃ B,B = w1.heap.size:=⟨_,rfl⟩
 rw [← hw2] at r1 r2 a2 ⊢
 rw [← hB] at r1 ⊢
 have HW:=(hIq r1 (aIq r2 a2))
 clear r1 r2 a2 hw2 c0 hlt hB
 refine wp_region_plan (fun wz => wz.heap[B]? = some (.cells N 198 (0,0)) ∧ wz.heap[w.heap.size]? = some (.cells Y 212 (0,0)) ∧ Adds w wz) 7 [(0,false),(1,false),(2,false),(3,false),(4,false),(5,false),(6,true)] (by kernel_rfl) (by kernel_rfl) ?_ ?_
 · exact ⟨row_drew HW.out.1,row_drew HW.out.2.1,HW.out.2.2.drew⟩
 iterate 2
  refine plan_look rfl rfl (fun w0 hS => (by clear hS; go_simp; try rfl)) ?_
  simp only [Act.put,nAq,nBq,nCq]
 refine plan_gload_k (cur:=N) (t:=198) (fr:=(0,0)) rfl rfl 31 _ rfl B 2 32 rfl (fun w0 hS => hS.1) Tryz.underlying31 rfl sizeP (by rw [HN.out.1.1]; omega) K HN.out.2.2.2 ?_
 simp only [Act.put,nAq,nBq,nCq]
 iterate 2
  refine plan_look rfl rfl (fun w0 hS => (by clear hS; go_simp; try rfl)) ?_
  simp only [Act.put,nAq,nBq,nCq]
 refine plan_look (v:=.slice ao vn vc) rfl rfl (fun w0 hS => (by have c:=row_cell hS.1 HN.out.2.2.1; clear hS; go_simp; try rfl)) ?_
 simp only [Act.put,nAq,nBq,nCq]
 refine plan_do rfl ?_
 go_wp2_with fail
 refine (HV.out _ HW.out.2.2.drew).mono ?_; rintro e wa ⟨rfl,aa⟩
 have AA:=(hIq (aa.row (row_drew HW.out.1) id) (aIq (aa.row (row_drew HW.out.2.1) id) (HW.out.2.2.drew.trans aa (fun _ => fEq))))
 clear aa
 dsimp only
 go_step
 refine wpList_nil ?_
 change _ ∧ _
 refine ⟨AA.out,?_⟩
 refine plan_end ?_; simp only [List.drop_succ_cons,List.drop_zero]
 have hlt:=row_lt AA.out.2.1
 go_wp2_with (first
  | fail
  | ((with_reducible show zOq (.build 212 _)); refine wpList_build_three rfl 212 0 1 2 _ _ _ rfl (.int .u8 1) (.agg K) (.agg D) rfl rfl rfl O HO.out.2 ?_)
  | ((with_reducible show zOq (.store 212 _ _)); refine wpList_store_part rfl 212 _ _ rfl w.heap.size 0 O rfl rfl AA.out.2.1 (by rw [HY.out.1.2.1,HO.out.1.1]) (by rw [HO.out.1.1,HY.out.2]; omega) HO.out.1.2 O (by rw [splice_all _ _ (by rw [Array.length_toList,Array.length_toList,HO.out.1.1,HY.out.2])]) ?_))
 refine NoPanic.normal ?_
 go_wp2
 exact bodyPost_ret_cell1 (p:=4) rfl rfl (row_setRow_same AA.out.2.1 _) Tryz.underlying212 rfl (by rw [HY.out.1.2.1,HO.out.1.1]) rfl ⟨rfl,AA.out.2.2.setRow (.inr (Nat.le_refl _)) _⟩
theorem RNode_inner (h:RAt w b F ρ) (L:Lk σ ρ) (G:Good σ) {n:Int} {s:Nd × Nat} (hs:σ.get? n = some s) (hk:s.1.kind = 2) :
 Calls Tryz.prog 158 #[.pointer (some ⟨b,0,none⟩),.int .i64 n] w fun e w' => e = .returned (.agg (nodeA 2 Nd.z32 Nd.z32 (digestOf σ s.1.left) (digestOf σ s.1.right))) ∧ Adds w w':=by
 obtain ⟨m,x,hnm,hlt,hsm,hx,h0,hsp,hkx,hk0,hle,hri,hv,hkey,hd,ho,hos⟩:=L.some G hs
 have hok:=(h.1.nums x (List.mem_of_getElem? hx)).1
 have hdl:∀ n,(digestOf σ n).length = 32:=fun n => by
  unfold digestOf
  split
  · exact Tag.digest_length _ _
  cases hs:σ.get? n with
  | none => rw [nd_none hs]; rfl
  | some s =>
   obtain ⟨d,t,hr,_⟩:=rep_any G hs
   have h0:n ≠ 0:=fun e => by
    have:=sk_some hs
    rw [e,G.fit.zero] at this
    cases this
   have e:(nd σ n).digest = t.dig:=by rw [← hr.dig G.fit, ← digestOf_sk]; unfold digestOf; rw [if_neg h0]
   rw [e]
   exact tree_dig_length _
 have hg:=fun w1 (a:Adds w w1) => Rat_ok (h.adds a) n
 rw [hsp] at hg
 obtain ⟨N,hN⟩:∃ N,N = x.cells:=⟨_,rfl⟩
 have hNs:N.size = 39 ∧ ∀ v ∈ N.toList,v.oneCell' = true:=by rw [hN]; exact ⟨Sp.cells_size hok,Sp.cells_one hok⟩
 have k0:N[0]? = some (.int .u8 2):=by rw [hN,Sp.at_kind,hkx,hk]; rfl
 have kl:N[35]? = some (.int .i64 s.1.left):=by rw [hN,Sp.at_left hok,hle]
 have kr:N[36]? = some (.int .i64 s.1.right):=by rw [hN,Sp.at_right hok,hri]
 rw [← hN] at hg
 obtain ⟨lf,hlf⟩:∃ lf,lf = s.1.left:=⟨_,rfl⟩
 obtain ⟨rg,hrg⟩:∃ rg,rg = s.1.right:=⟨_,rfl⟩
 rw [← hlf] at kl ⊢
 rw [← hrg] at kr ⊢
 obtain ⟨Z,hZ⟩:∃ Z,Z = Sp.zero.cells:=⟨_,rfl⟩
 have hzs:=zeroSp
 rw [← hZ] at hzs
 obtain ⟨Y,hY⟩:∃ Y,Y = nodeZ:=⟨_,rfl⟩
 have hyf:=nodeZ_facts
 have hYs:nodeZ.size = 129:=rfl
 rw [← hY] at hyf hYs
 obtain ⟨O,hO⟩:∃ O,O = nodeA 2 Nd.z32 Nd.z32 (digestOf σ lf) (digestOf σ rg):=⟨_,rfl⟩
 have hOs:O.size = 129 ∧ ∀ v ∈ O.toList,v.oneCell' = true:=by rw [hO]; exact ⟨nodeA_size rfl rfl (hdl _) (hdl _),nodeA_one _ _ _ _ _⟩
 have hbt:=built_node_inner (digestOf σ lf) (digestOf σ rg) (hdl _) (hdl _)
 obtain ⟨A,hA⟩:∃ A,A = brow (digestOf σ lf):=⟨_,rfl⟩
 obtain ⟨D,hD⟩:∃ D,D = brow (digestOf σ rg):=⟨_,rfl⟩
 rw [← hO, ← hA, ← hD] at hbt
 have hl:∀ w1,Adds w w1 → Calls Tryz.prog 125 #[.pointer (some ⟨b,0,none⟩),.int .i64 lf] w1 fun e w' => e = .returned (.agg A) ∧ Adds w1 w':=fun w1 a => by
  rw [hA]; exact RDigest_ok (h.adds a) L G lf
 have hr:∀ w1,Adds w w1 → Calls Tryz.prog 125 #[.pointer (some ⟨b,0,none⟩),.int .i64 rg] w1 fun e w' => e = .returned (.agg D) ∧ Adds w1 w':=fun w1 a => by
  rw [hD]; exact RDigest_ok (h.adds a) L G rg
 rw [← hO]
 have HG:=Lib.hid hg
 have HN:=(hIq hNs (aIq k0 (aIq kl kr)))
 have HZ:=(hIq hzs (by rw [hZ]; exact Sp.cells_size Sp.zero_ok:Z.size = 39))
 have HY:=(hIq hyf hYs)
 have HO:=(hIq hOs hbt)
 have HV:=(hIq hl hr)
 clear hg hNs k0 kl kr hzs hZ hyf hYs hY hOs hbt hl hr hO hA hD hN hok hx hsm hlt h0 hsp hkx hk0 hle hri hv hkey hd ho hos h hlf hrg hs hk hnm hdl
 go_enter Tryz.func158,Tryz.ntmps158
 go_wp2_with (first | fail | ((with_reducible show zOq (.alloc 212)); refine wpList_alloc_is rfl 212 rfl (.agg Y) HY.out.1.1 ?_; dsimp only [Value.cells]; try simp only [World.size_alloc]))
 refine (HG.out _ ((Ch.refl _ _).alloc _)).mono ?_; rintro e w1 ⟨rfl,hc1⟩
 have hyr:=hc1.row (heap_alloc_new w (.cells Y 212)) id
 have c0:=row_cell (row_setRow_same (heap_alloc_new w1 (.cells Z 198)) N) HN.out.2.1
 have C1:=Lib.hid (((Ch.refl (fun _ => False) w).alloc (.cells Y 212)).trans hc1 (fun _ => fEq))
 have hlt:=row_lt hyr
 have HY1:=Lib.hid hyr
 clear hc1 hyr
 go_upto_region 5 with (first
  | fail
  | ((with_reducible show zOq (.alloc 198)); refine wpList_alloc_is rfl 198 rfl (.agg Z) HZ.out.1 ?_; dsimp only [Value.cells]; try simp only [World.size_alloc])
  | ((with_reducible show zOq (.store 198 _ _)); refine wpList_store_part rfl 198 _ _ rfl w1.heap.size 0 N rfl rfl (heap_alloc_new _ _) (by rw [sizeSp,HN.out.1.1]) (by rw [HN.out.1.1,HZ.out.2]; omega) HN.out.1.2 N (by rw [splice_all _ _ (by rw [Array.length_toList,Array.length_toList,HN.out.1.1,HZ.out.2])]) ?_))
 have r1:((w1.alloc (.cells Z 198)).setRow w1.heap.size N).heap[w1.heap.size]? = some (.cells N 198 (0,0)):=row_setRow_same (heap_alloc_new _ _) _
 have r2:((w1.alloc (.cells Z 198)).setRow w1.heap.size N).heap[w.heap.size]? = some (.cells Y 212 (0,0)):=row_setRow (row_alloc HY1.out _) (by omega) _
 have a2:Adds w ((w1.alloc (.cells Z 198)).setRow w1.heap.size N):=(C1.out.alloc _).setRow (.inr C1.out.size) _
 obtain ⟨w2,hw2⟩:∃ w2,w2 = (w1.alloc (.cells Z 198)).setRow w1.heap.size N:=⟨_,rfl⟩
 obtain ⟨B,hB⟩:∃ B,B = w1.heap.size:=⟨_,rfl⟩
 rw [← hw2] at r1 r2 a2 ⊢
 rw [← hB] at r1 ⊢
 have HW:=(hIq r1 (aIq r2 a2))
 clear r1 r2 a2 hw2 c0 hlt hB
 refine wp_region_plan (fun wz => wz.heap[B]? = some (.cells N 198 (0,0)) ∧ wz.heap[w.heap.size]? = some (.cells Y 212 (0,0)) ∧ Adds w wz) 8 [(0,false),(1,false),(2,false),(4,false),(5,false),(6,false),(3,true),(7,true)] (by kernel_rfl) (by kernel_rfl) ?_ ?_
 · exact ⟨row_drew HW.out.1,row_drew HW.out.2.1,HW.out.2.2.drew⟩
 iterate 2
  refine plan_look rfl rfl (fun w0 hS => (by clear hS; go_simp; try rfl)) ?_
  simp only [Act.put,nAq,nBq,nCq]
 refine plan_look (v:=.int .i64 lf) rfl rfl (fun w0 hS => (by have c:=row_cell hS.1 HN.out.2.2.1; clear hS; go_simp; try rfl)) ?_
 simp only [Act.put,nAq,nBq,nCq]
 iterate 2
  refine plan_look rfl rfl (fun w0 hS => (by clear hS; go_simp; try rfl)) ?_
  simp only [Act.put,nAq,nBq,nCq]
 refine plan_look (v:=.int .i64 rg) rfl rfl (fun w0 hS => (by have c:=row_cell hS.1 HN.out.2.2.2; clear hS; go_simp; try rfl)) ?_
 simp only [Act.put,nAq,nBq,nCq]
 refine plan_do rfl ?_
 go_wp2_with fail
 refine (HV.out.1 _ HW.out.2.2.drew).mono ?_; rintro e wa ⟨rfl,aa⟩
 have AA:=(hIq (aa.row (row_drew HW.out.1) id) (aIq (aa.row (row_drew HW.out.2.1) id) (HW.out.2.2.drew.trans aa (fun _ => fEq))))
 clear aa
 dsimp only
 go_step
 refine wpList_nil ?_
 change _ ∧ _
 refine ⟨AA.out,?_⟩
 refine plan_do rfl ?_
 go_wp2_with fail
 refine (HV.out.2 _ AA.out.2.2).mono ?_; rintro e wb ⟨rfl,ab⟩
 have AB:=(hIq (ab.row AA.out.1 id) (aIq (ab.row AA.out.2.1 id) (AA.out.2.2.trans ab (fun _ => fEq))))
 clear ab
 dsimp only
 go_step
 refine wpList_nil ?_
 change _ ∧ _
 refine ⟨AB.out,?_⟩
 refine plan_end ?_; simp only [List.drop_succ_cons,List.drop_zero]
 have hlt:=row_lt AB.out.2.1
 go_wp2_with (first
  | fail
  | ((with_reducible show zOq (.build 212 _)); refine wpList_build_three rfl 212 0 3 4 _ _ _ rfl (.int .u8 2) (.agg A) (.agg D) rfl rfl rfl O HO.out.2 ?_)
  | ((with_reducible show zOq (.store 212 _ _)); refine wpList_store_part rfl 212 _ _ rfl w.heap.size 0 O rfl rfl AB.out.2.1 (by rw [HY.out.1.2.1,HO.out.1.1]) (by rw [HO.out.1.1,HY.out.2]; omega) HO.out.1.2 O (by rw [splice_all _ _ (by rw [Array.length_toList,Array.length_toList,HO.out.1.1,HY.out.2])]) ?_))
 refine NoPanic.normal ?_
 go_wp2
 exact bodyPost_ret_cell1 (p:=4) rfl rfl (row_setRow_same AB.out.2.1 _) Tryz.underlying212 rfl (by rw [HY.out.1.2.1,HO.out.1.1]) rfl ⟨rfl,AB.out.2.2.setRow (.inr (Nat.le_refl _)) _⟩
def nodeOf (σ:SlabSt Nd) (n:Int):Array Value :=
 if (nd σ n).kind = 1 then nodeA 1 (nd σ n).key (nd σ n).hash Nd.z32 Nd.z32 else if (nd σ n).kind = 2 then nodeA 2 Nd.z32 Nd.z32 (digestOf σ (nd σ n).left) (digestOf σ (nd σ n).right) else nodeZ
theorem RNode_ok (h:RAt w b F ρ) (L:Lk σ ρ) (G:Good σ) (n:Int):Calls Tryz.prog 158 #[.pointer (some ⟨b,0,none⟩),.int .i64 n] w fun e w' => e = .returned (.agg (nodeOf σ n)) ∧ Adds w w':=by
 unfold nodeOf
 cases hs:σ.get? n with
 | none =>
  rw [nd_none hs]
  exact RNode_none h (L.none hs)
 | some s =>
  rw [nd_some hs]
  by_cases h1:s.1.kind = 1
  · rw [if_pos h1]
    exact RNode_leaf h L G hs h1
  rw [if_neg h1]
  have h2:s.1.kind = 2:=by
   by_cases h2:s.1.kind = 2
   · exact h2
   exact absurd (G.fit.leaf (sk_some hs) h2).1 h1
  rw [if_pos h2]
  exact RNode_inner h L G hs h2
end
end Go.Proofs.YtmeglndnkdgkoaaGreat.Store

/- Laws of the layers below. -/
import Derived.Test.YtmeglndnkdgkoaaGreatQf15
set_option maxHeartbeats 3200000
set_option maxRecDepth 100000
set_option linter.unusedVariables false
namespace Go.Proofs.YtmeglndnkdgkoaaGreat.Store
open Go.RowKit Go.Proofs.YtmeglndnkdgkoaaGreat.ShaW Go.Proofs.YtmeglndnkdgkoaaGreat.Path
structure Rs.Fine (ρ:Rs):Prop where
 space:1 ≤ ρ.space ∧ ρ.space ≤ 65536
 len:ρ.spots.length ≤ ρ.space
 free:∀ n ∈ ρ.free,1 ≤ n ∧ n ≤ ρ.spots.length
 flen:ρ.free.length ≤ ρ.spots.length
 nums:∀ x ∈ ρ.spots,x.Ok ∧ (0 ≤ x.own ∧ x.own ≤ 2147483648) ∧ (0 ≤ x.sides ∧ x.sides ≤ 2147483648)
def RAt (w:World) (b:Nat) (F:Nat → Prop) (ρ:Rs):Prop :=
 ρ.Fine ∧ ∃ vs vf,w.heap[b]? = some (.cells #[.bool true,.int .i64 (ρ.space:Nat),vs,vf] 126 (0,0)) ∧
  w.ownsRow 0 198 39 vs ρ.spots.length (flatA (ρ.spots.map Sp.cells)) ∧ w.ownsRow 0 3 1 vf ρ.free.length (ints ρ.free) ∧
  (∀ x ∈ ρ.spots,Bytes w x.addr x.value ∧ ∀ k,x.addr.ownBlock = some k → F k ∧ k ≠ b ∧ vs.ownBlock ≠ some k ∧ vf.ownBlock ≠ some k) ∧
  F b ∧ (∀ k,vs.ownBlock = some k → F k ∧ k ≠ b) ∧ (∀ k,vf.ownBlock = some k → F k ∧ k ≠ b ∧ vs.ownBlock ≠ some k) ∧ (∀ k,F k → k < w.heap.size)
def RMoved (w w':World) (b:Nat) (F:Nat → Prop) (ρ:Rs):Prop := ∃ F',RAt w' b F' ρ ∧ Ch F w w' ∧ ∀ k,F' k → F k ∨ w.heap.size ≤ k
section
variable {w w' : World} {b : Nat} {F : Nat → Prop} {ρ : Rs}
theorem RAt.keep {C:Nat → Prop} (h:RAt w b F ρ) (hc:Ch C w w') (hd:∀ k,F k → ¬ C k):RAt w' b F ρ:=by
 obtain ⟨h0,vs,vf,h1,h2,h3,h4,h5,h6,h7,h8⟩:=h
 exact ⟨h0,vs,vf,hc.row h1 (hd b h5),hc.owns h2 (fun k hk => hd k (h6 k hk).1),hc.owns h3 (fun k hk => hd k (h7 k hk).1),fun x hx => ⟨(h4 x hx).1.keep hc (fun k hk => hd k ((h4 x hx).2 k hk).1),(h4 x hx).2⟩,h5,h6,h7,fun k hk => Nat.lt_of_lt_of_le (h8 k hk) hc.size⟩
theorem RAt.adds (h:RAt w b F ρ) (a:Adds w w'):RAt w' b F ρ:=h.keep a (fun _ _ h => h)
theorem RMoved.same (h:RAt w b F ρ) (a:Adds w w'):RMoved w w' b F ρ:=⟨F,h.adds a,a.mono (fun _ _ h => h.elim),fun k hk => .inl hk⟩
theorem RMoved.from {w0:World} (a:Adds w0 w) (h:RMoved w w' b F ρ):RMoved w0 w' b F ρ:=by
 obtain ⟨F1,h1,h2,h3⟩:=h
 exact ⟨F1,h1,(a.mono (G:=F) (fun _ _ h => h.elim)).trans h2 (fun k hk => .inl hk),fun k hk => (h3 k hk).elim .inl (fun h => .inr (Nat.le_trans a.size h))⟩
theorem spot_mem (h:RAt w b F ρ) {m:Nat} {x:Sp} (hx:ρ.spots[m]? = some x) :
 ∃ g cap cur vf,w.heap[b]? = some (.cells #[.bool true,.int .i64 (ρ.space:Nat),.slice (some ⟨g,0,none⟩) ρ.spots.length cap,vf] 126 (0,0)) ∧
  w.heap[g]? = some (.cells cur 198 (0,0)) ∧ ρ.spots.length ≤ cap ∧ cap ≤ maxLen ∧ cur.size = cap * 39 ∧ cur.toList.take (ρ.spots.length * 39) = flatA (ρ.spots.map Sp.cells) ∧ m < ρ.spots.length ∧
  x.Ok ∧ (∀ j v,j < 39 → x.cells[j]? = some v → cur[m * 39 + j]? = some v) ∧ cur.extract (m * 39) (m * 39 + 39) = x.cells ∧ F g ∧ g ≠ b ∧ m * 39 + 39 ≤ cur.size:=by
 obtain ⟨h0,vs,vf,h1,h2,h3,h4,h5,h6,h7,h8⟩:=h
 have hm:=(List.getElem?_eq_some_iff.1 hx).1
 obtain ⟨g,cap,cur,rfl,hg,hc1,hc2,hc3,hc4⟩:=owns_block h2 (by omega)
 have hok:x.Ok:=(h0.nums x (List.mem_of_getElem? hx)).1
 have hsz:∀ a ∈ ρ.spots.map Sp.cells,a.size = 39:=fun a ha => by
  obtain ⟨y,hy,rfl⟩:=List.mem_map.1 ha
  exact Sp.cells_size (h0.nums y hy).1
 have hxm:(ρ.spots.map Sp.cells)[m]? = some x.cells:=by rw [List.getElem?_map,hx]; rfl
 have hle:(m + 1) * 39 ≤ ρ.spots.length * 39:=Nat.mul_le_mul_right _ hm
 refine ⟨g,cap,cur,vf,h1,hg,hc1,hc2,hc3,hc4,hm,hok,fun j v hj hv => ?_,?_,(h6 g rfl).1,(h6 g rfl).2,by rw [hc3]; omega⟩
 · exact take_get hc4 (by rw [flatA_at hsz hxm hj]; exact hv)
 apply Array.ext'
 have:=flatA_part hsz hxm
 rw [← hc4] at this
 rw [← this,Array.toList_extract,List.extract,show m * 39 + 39 - m * 39 = 39 by omega,List.drop_take,List.take_take,Nat.min_eq_left (by omega)]
theorem RAt.head (h:RAt w b F ρ):∃ ao cap vf,w.heap[b]? = some (.cells #[.bool true,.int .i64 (ρ.space:Nat),.slice ao ρ.spots.length cap,vf] 126 (0,0)):=by
 obtain ⟨h0,vs,vf,h1,h2,_⟩:=h
 obtain ⟨ao,cap,rfl⟩:=owns_form h2
 exact ⟨ao,cap,vf,h1⟩
theorem RNone_no (h:RAt w b F ρ):Calls Tryz.prog 133 #[.pointer (some ⟨b,0,none⟩)] w fun e w' => e = .returned (.bool false) ∧ w = w':=by
 obtain ⟨ao,cap,vf,hb⟩:=h.head
 have c0:=row_cell hb (i:=0) rfl
 clear hb h
 go_enter Tryz.func133,Tryz.ntmps133
 go_wp2
 go_ret
 exact ⟨rfl,rfl⟩
theorem Rs.sp_out (ρ:Rs) {n:Int} (h:n < 1 ∨ (ρ.spots.length:Int) < n):ρ.sp n = Sp.zero:=by
 unfold Rs.sp
 rcases h with h | h
 · rw [if_neg (by omega)]
 by_cases h1:1 ≤ n
 · rw [if_pos h1,List.getElem?_eq_none (by omega)]
 rw [if_neg h1]
theorem Rs.sp_at (ρ:Rs) {m:Nat} {x:Sp} (h:ρ.spots[m]? = some x):ρ.sp ((m:Int) + 1) = if x.kind = 0 then Sp.zero else x:=by
 unfold Rs.sp
 rw [if_pos (by omega),show ((m:Int) + 1 - 1).toNat = m by omega,h]
theorem Rs.parts (ρ:Rs) (n:Int):(n < 1 ∨ (ρ.spots.length:Int) < n) ∨ ∃ (m:Nat) (x:Sp),n = (m:Int) + 1 ∧ m < ρ.spots.length ∧ ρ.spots[m]? = some x:=by
 by_cases h:n < 1 ∨ (ρ.spots.length:Int) < n
 · exact .inl h
 have hlt:(n - 1).toNat < ρ.spots.length:=by omega
 exact .inr ⟨(n - 1).toNat,ρ.spots[(n - 1).toNat],by omega,hlt,List.getElem?_eq_getElem hlt⟩
theorem RHas_ok (h:RAt w b F ρ) (n:Int):Calls Tryz.prog 137 #[.pointer (some ⟨b,0,none⟩),.int .i64 n] w fun e w' => e = .returned (.bool (ρ.has n)) ∧ w = w':=by
 have hn:=RNone_no h
 have hl:=h.1.len
 have hs:=h.1.space
 have HN:=Lib.hid hn
 clear hn
 rcases ρ.parts n with hout | ⟨m,x,rfl,hm,hx⟩
 · have hz:ρ.has n = false:=by unfold Rs.has; rw [ρ.sp_out hout]; rfl
   rw [hz]
   obtain ⟨ao,cap,vf,hb⟩:=h.head
   have c2:=row_cell hb (i:=2) rfl
   obtain ⟨L,hL⟩:∃ L,L = ρ.spots.length:=⟨_,rfl⟩
   rw [← hL] at c2 hout
   clear hb h hz hL
   by_cases h1:n < 1
   · have d1:decide ((1:Int) ≤ n) = false:=decide_eq_false (by omega)
     clear hout
     go_enter Tryz.func137,Tryz.ntmps137
     go_wp2_with fail
     refine HN.out.mono ?_; rintro e w1 ⟨rfl,rfl⟩
     go_wp2
     go_ret
     exact ⟨rfl,rfl⟩
   have d1:decide ((1:Int) ≤ n) = true:=decide_eq_true (by omega)
   have d2:decide (n ≤ (L:Int)) = false:=decide_eq_false (by omega)
   clear hout
   go_enter Tryz.func137,Tryz.ntmps137
   go_wp2_with fail
   refine HN.out.mono ?_; rintro e w1 ⟨rfl,rfl⟩
   go_wp2
   go_ret
   exact ⟨rfl,rfl⟩
 obtain ⟨g,cap,cur,vf,hb,hg,q1,q2,q3,q4,q5,hok,hat,hex,_⟩:=spot_mem h hx
 have c2:=row_cell hb (i:=2) rfl
 have ck:=row_cell hg (i:=m * 39) (hat 0 _ (by omega) Sp.at_kind)
 have hhas:ρ.has ((m:Int) + 1) = decide (x.kind ≠ 0):=by
  unfold Rs.has
  rw [ρ.sp_at hx]
  by_cases e:x.kind = 0
  · rw [if_pos e,e]; rfl
  rw [if_neg e]
 rw [hhas]
 obtain ⟨L,hL⟩:∃ L,L = ρ.spots.length:=⟨_,rfl⟩
 rw [← hL] at c2 hm hl
 obtain ⟨kd,hkd⟩:∃ kd,kd = x.kind:=⟨_,rfl⟩
 rw [← hkd] at ck ⊢
 have d1:decide ((1:Int) ≤ (m:Int) + 1) = true:=decide_eq_true (by omega)
 have d2:decide ((m:Int) + 1 ≤ (L:Int)) = true:=decide_eq_true (by omega)
 have hml:m ≤ 65535:=by omega
 clear hb h hL hkd hhas hg q1 q2 q3 q4 q5 hok hat hex hx
 by_cases h0:kd = 0
 · subst h0
   go_enter Tryz.func137,Tryz.ntmps137
   go_wp2_with fail
   refine HN.out.mono ?_; rintro e w1 ⟨rfl,rfl⟩
   go_wp2
   go_ret
   exact ⟨rfl,rfl⟩
 have h0':¬ ((kd:Nat):Int) = 0:=by omega
 go_enter Tryz.func137,Tryz.ntmps137
 go_wp2_with fail
 refine HN.out.mono ?_; rintro e w1 ⟨rfl,rfl⟩
 go_wp2
 go_ret
 exact ⟨by simp [h0],rfl⟩
end
theorem zeroSp:(Tryz.prog.info? 198).bind (·.zero) = some (.agg Sp.zero.cells):=by kernel_rfl
theorem builtSp:Tryz.prog.built 198 [] = some Sp.zero.cells:=by kernel_rfl
theorem sizeSp:(Tryz.prog.info? 198).map (·.size) = some 39:=by kernel_rfl
theorem Rs.Fine.ok {ρ:Rs} (h:ρ.Fine) (n:Int):(ρ.sp n).Ok ∧ (0 ≤ (ρ.sp n).own ∧ (ρ.sp n).own ≤ 2147483648) ∧ (0 ≤ (ρ.sp n).sides ∧ (ρ.sp n).sides ≤ 2147483648):=by
 rcases ρ.parts n with ho | ⟨m,x,rfl,hm,hx⟩
 · rw [ρ.sp_out ho]; exact ⟨Sp.zero_ok,by decide,by decide⟩
 rw [ρ.sp_at hx]
 split
 · exact ⟨Sp.zero_ok,by decide,by decide⟩
 exact h.nums x (List.mem_of_getElem? hx)
section
variable {w w' : World} {b : Nat} {F : Nat → Prop} {ρ : Rs}
theorem Rat_ok (h:RAt w b F ρ) (n:Int):Calls Tryz.prog 144 #[.pointer (some ⟨b,0,none⟩),.int .i64 n] w fun e w' => e = .returned (.agg (ρ.sp n).cells) ∧ Adds w w':=by
 obtain ⟨Z,hZ⟩:∃ Z,Z = Sp.zero.cells:=⟨_,rfl⟩
 have hz:=zeroSp
 have hzb:=builtSp
 rw [← hZ] at hz hzb
 have hzs:Z.size = 39 ∧ ∀ v ∈ Z.toList,v.oneCell' = true:=by rw [hZ]; exact ⟨Sp.cells_size Sp.zero_ok,Sp.cells_one Sp.zero_ok⟩
 have HZ:=(hIq hz (aIq hzs.1 (aIq hzs.2 hzb)))
 have hh:=RHas_ok (h.adds ((Ch.refl (fun _ => False) w).alloc (.cells Z 198))) n
 have hl:=h.1.len
 have hs:=h.1.space
 by_cases hb:ρ.has n = true
 · rw [hb] at hh
   have HH:=Lib.hid hh
   rcases ρ.parts n with hout | ⟨m,x,rfl,hm,hx⟩
   · exfalso
     unfold Rs.has at hb
     rw [ρ.sp_out hout] at hb
     simp [Sp.zero] at hb
   have hsp:ρ.sp ((m:Int) + 1) = x:=by
    unfold Rs.has at hb
    rw [ρ.sp_at hx] at hb ⊢
    by_cases e:x.kind = 0
    · rw [if_pos e] at hb; simp [Sp.zero] at hb
    rw [if_neg e]
   rw [hsp]
   obtain ⟨g,cap,cur,vf,hb1,hg,q1,q2,q3,q4,q5,hok,hat,hex,_,_,hfit⟩:=spot_mem h hx
   obtain ⟨X,hX⟩:∃ X,X = x.cells:=⟨_,rfl⟩
   have hXs:X.size = 39 ∧ ∀ v ∈ X.toList,v.oneCell' = true:=by rw [hX]; exact ⟨Sp.cells_size hok,Sp.cells_one hok⟩
   rw [← hX] at hex ⊢
   have c2:=row_cell (row_alloc hb1 (.cells Z 198)) (i:=2) rfl
   obtain ⟨L,hL⟩:∃ L,L = ρ.spots.length:=⟨_,rfl⟩
   rw [← hL] at c2 hm hl
   have HG:=(hIq hg (aIq hfit hex))
   have HX:=Lib.hid hXs
   have hml:m ≤ 65535:=by omega
   clear hh hb hX hXs hz hzb hzs hZ hL hb1 hg q1 q2 q3 q4 q5 hok hat hex hfit hx hsp h
   go_enter Tryz.func144,Tryz.ntmps144
   go_wp2_with (first
    | fail
    | ((with_reducible show zOq (.alloc 198)); refine wpList_alloc_is rfl 198 rfl (.agg Z) HZ.out.1 ?_; dsimp only [Value.cells]; try simp only [World.size_alloc]))
   refine HH.out.mono ?_; rintro e w1 ⟨rfl,rfl⟩
   go_wp2_with (first
    | fail
    | ((with_reducible show zOq (.load 198 _)); refine wpList_load_part rfl 198 _ rfl g (m * 39) rfl (row_alloc HG.out.1 _) Tryz.underlying198 rfl sizeSp HG.out.2.1 X HG.out.2.2 ?_)
    | ((with_reducible show zOq (.store 198 _ _)); refine wpList_store_part rfl 198 _ _ rfl w.heap.size 0 X rfl rfl (heap_alloc_new _ _) (by rw [sizeSp,HX.out.1]) (by rw [HX.out.1,HZ.out.2.1]; omega) HX.out.2 X (by rw [splice_all _ _ (by rw [Array.length_toList,Array.length_toList,HX.out.1,HZ.out.2.1])]) ?_))
   exact bodyPost_ret_cell1 (p:=4) rfl rfl (row_setRow_same (heap_alloc_new _ _) _) Tryz.underlying198 rfl (by rw [sizeSp,HX.out.1]) rfl ⟨rfl,((Ch.refl _ _).alloc _).setRow (.inr (Nat.le_refl _)) _⟩
 have hb':ρ.has n = false:=by simpa using hb
 have hsp:ρ.sp n = Sp.zero:=by
  unfold Rs.has at hb'
  rcases ρ.parts n with hout | ⟨m,x,rfl,hm,hx⟩
  · exact ρ.sp_out hout
  rw [ρ.sp_at hx] at hb' ⊢
  by_cases e:x.kind = 0
  · rw [if_pos e]
  rw [if_neg e] at hb'; simp [e] at hb'
 rw [hb'] at hh
 have HH:=Lib.hid hh
 rw [hsp, ← hZ]
 clear hh hb hb' hsp hz hzb hzs hZ h hl hs
 go_enter Tryz.func144,Tryz.ntmps144
 go_wp2_with (first
  | fail
  | ((with_reducible show zOq (.alloc 198)); refine wpList_alloc_is rfl 198 rfl (.agg Z) HZ.out.1 ?_; dsimp only [Value.cells]; try simp only [World.size_alloc]))
 refine HH.out.mono ?_; rintro e w1 ⟨rfl,rfl⟩
 go_wp2_with (first
  | fail
  | ((with_reducible show zOq (.build 198 #[])); refine wpList_build_none rfl 198 rfl Z HZ.out.2.2.2 ?_)
  | ((with_reducible show zOq (.store 198 _ _)); refine wpList_store_part rfl 198 _ _ rfl w.heap.size 0 Z rfl rfl (heap_alloc_new _ _) (by rw [sizeSp,HZ.out.2.1]) (by omega) HZ.out.2.2.1 Z (by rw [splice_all _ _ rfl]) ?_))
 exact bodyPost_ret_cell1 (p:=4) rfl rfl (row_setRow_same (heap_alloc_new _ _) _) Tryz.underlying198 rfl (by rw [sizeSp,HZ.out.2.1]) rfl ⟨rfl,((Ch.refl _ _).alloc _).setRow (.inr (Nat.le_refl _)) _⟩
end
end Go.Proofs.YtmeglndnkdgkoaaGreat.Store
namespace Go.Proofs.YtmeglndnkdgkoaaGreat
open Go.RowKit
theorem run_field_one {P:Program} {w:World} {T:TypeId} {fs:Array Field} {N:Array Value} {i:Nat} {f:Field} {v:Value} (ht:P.underlying T = some (.struct fs)) (hf:fs[i]? = some f) (ha:(isAgg f.type).run P w = .ok false w) (hv:N[f.offset]? = some v) :
 (Instr.field T (.agg N) i).run P w = .ok v w:=by
 unfold Instr.field part
 have hu:(Go.underlying T).run P w = .ok (.struct fs) w:=by simp [Go.underlying,ht,go_sem]
 simp only [Sem.run_bind,hu,Result.andThen_ok,hf,asAgg,Sem.run_pure,ha,hv]
 simp [go_sem]
theorem run_field_part {P:Program} {w:World} {T:TypeId} {fs:Array Field} {N:Array Value} {i:Nat} {f:Field} {n:Nat} (ht:P.underlying T = some (.struct fs)) (hf:fs[i]? = some f) (ha:(isAgg f.type).run P w = .ok true w) (hs:(Go.sizeOf f.type).run P w = .ok n w) {C:Array Value} (hv:N.extract f.offset (f.offset + n) = C) :
 (Instr.field T (.agg N) i).run P w = .ok (.agg C) w:=by
 unfold Instr.field part
 have hu:(Go.underlying T).run P w = .ok (.struct fs) w:=by simp [Go.underlying,ht,go_sem]
 simp only [Sem.run_bind,hu,Result.andThen_ok,hf,asAgg,Sem.run_pure,ha]
 simp [hv,hs,go_sem]
end Go.Proofs.YtmeglndnkdgkoaaGreat
namespace Go.Proofs.YtmeglndnkdgkoaaGreat.Store
open Go.RowKit Go.Proofs.YtmeglndnkdgkoaaGreat.ShaW Go.Proofs.YtmeglndnkdgkoaaGreat.Path
section
variable {w w' : World} {b : Nat} {F : Nat → Prop} {ρ : Rs}
theorem RKind_ok (h:RAt w b F ρ) (n:Int):Calls Tryz.prog 88 #[.pointer (some ⟨b,0,none⟩),.int .i64 n] w fun e w' => e = .returned (.int .u8 ((ρ.sp n).kind:Nat)) ∧ Adds w w':=by
 have hg:=Rat_ok h n
 obtain ⟨hok,ho,hs⟩:=h.1.ok n
 obtain ⟨N,hN⟩:∃ N,N = (ρ.sp n).cells:=⟨_,rfl⟩
 have k0:=Sp.at_kind (x:=ρ.sp n)
 rw [← hN] at hg k0
 have hfd:=fun w => run_field_one (P:=Tryz.prog) (w:=w) Tryz.underlying198 (i:=0) rfl (Tryz.isAgg121 w) k0
 have HG:=Lib.hid hg
 clear hg hN hok ho hs h
 go_enter Tryz.func88,Tryz.ntmps88
 go_wp2_with fail
 refine HG.out.mono ?_; rintro e w1 ⟨rfl,a1⟩
 have A1:=Lib.hid a1
 clear a1
 go_wp2
 go_ret
 exact ⟨rfl,A1.out⟩
theorem RHeld_ok (h:RAt w b F ρ) (n:Int):Calls Tryz.prog 151 #[.pointer (some ⟨b,0,none⟩),.int .i64 n] w fun e w' => e = .returned (.int .i64 (ρ.sp n).own) ∧ Adds w w':=by
 have hg:=Rat_ok h n
 obtain ⟨hok,ho,hs⟩:=h.1.ok n
 obtain ⟨N,hN⟩:∃ N,N = (ρ.sp n).cells:=⟨_,rfl⟩
 have k0:=Sp.at_own hok
 rw [← hN] at hg k0
 have hfd:=fun w => run_field_one (P:=Tryz.prog) (w:=w) Tryz.underlying198 (i:=5) rfl (Tryz.isAgg3 w) k0
 have HG:=Lib.hid hg
 clear hg hN hok ho hs h
 go_enter Tryz.func151,Tryz.ntmps151
 go_wp2_with fail
 refine HG.out.mono ?_; rintro e w1 ⟨rfl,a1⟩
 have A1:=Lib.hid a1
 clear a1
 go_wp2
 go_ret
 exact ⟨rfl,A1.out⟩
def Rs.depth (ρ:Rs) (n:Int):Int:=if (ρ.sp n).kind = 2 then (ρ.sp n).d else -1
theorem RDepth_ok (h:RAt w b F ρ) (n:Int):Calls Tryz.prog 148 #[.pointer (some ⟨b,0,none⟩),.int .i64 n] w fun e w' => e = .returned (.int .i64 (ρ.depth n)) ∧ Adds w w':=by
 have hg:=fun w1 (a:Adds w w1) => Rat_ok (h.adds a) n
 obtain ⟨N,hN⟩:∃ N,N = (ρ.sp n).cells:=⟨_,rfl⟩
 have k0:=Sp.at_kind (x:=ρ.sp n)
 have k1:=Sp.at_d (x:=ρ.sp n)
 rw [← hN] at k0 k1
 rw [← hN] at hg
 unfold Rs.depth
 obtain ⟨kd,hkd⟩:∃ kd,kd = (ρ.sp n).kind:=⟨_,rfl⟩
 obtain ⟨d,hd⟩:∃ d,d = (ρ.sp n).d:=⟨_,rfl⟩
 rw [← hkd] at k0 ⊢
 rw [← hd] at k1 ⊢
 have hf0:=fun w => run_field_one (P:=Tryz.prog) (w:=w) Tryz.underlying198 (i:=0) rfl (Tryz.isAgg121 w) k0
 have hf1:=fun w => run_field_one (P:=Tryz.prog) (w:=w) Tryz.underlying198 (i:=1) rfl (Tryz.isAgg3 w) k1
 have HG:=Lib.hid hg
 clear hg hN h hkd hd
 by_cases h2:kd = 2
 · subst h2
   go_enter Tryz.func148,Tryz.ntmps148
   go_wp2_with fail
   refine (HG.out _ (Ch.refl _ _)).mono ?_; rintro e w1 ⟨rfl,a1⟩
   have A1:=Lib.hid a1
   clear a1
   go_wp2_with fail
   refine (HG.out _ A1.out).mono ?_; rintro e w2 ⟨rfl,a2⟩
   have A2:=Lib.hid (A1.out.trans a2 (fun _ => fEq))
   clear a2
   go_wp2
   go_ret
   exact ⟨rfl,A2.out⟩
 have h2':¬ ((kd:Nat):Int) = 2:=by omega
 rw [if_neg h2]
 go_enter Tryz.func148,Tryz.ntmps148
 go_wp2_with fail
 refine (HG.out _ (Ch.refl _ _)).mono ?_; rintro e w1 ⟨rfl,a1⟩
 have A1:=Lib.hid a1
 clear a1
 go_wp2
 go_ret
 exact ⟨rfl,A1.out⟩
theorem RSides_ok (h:RAt w b F ρ) (n:Int):Calls Tryz.prog 129 #[.pointer (some ⟨b,0,none⟩),.int .i64 n] w fun e w' => e = .returned (.tuple #[.int .i64 (ρ.sp n).left,.int .i64 (ρ.sp n).right]) ∧ Adds w w':=by
 have hg:=fun w1 (a:Adds w w1) => Rat_ok (h.adds a) n
 obtain ⟨hok,ho,hs⟩:=h.1.ok n
 obtain ⟨N,hN⟩:∃ N,N = (ρ.sp n).cells:=⟨_,rfl⟩
 have k0:=Sp.at_left hok
 have k1:=Sp.at_right hok
 rw [← hN] at k0 k1
 rw [← hN] at hg
 have hf0:=fun w => run_field_one (P:=Tryz.prog) (w:=w) Tryz.underlying198 (i:=3) rfl (Tryz.isAgg3 w) k0
 have hf1:=fun w => run_field_one (P:=Tryz.prog) (w:=w) Tryz.underlying198 (i:=4) rfl (Tryz.isAgg3 w) k1
 have HG:=Lib.hid hg
 clear hg hN hok ho hs h
 go_enter Tryz.func129,Tryz.ntmps129
 go_wp2_with fail
 refine (HG.out _ (Ch.refl _ _)).mono ?_; rintro e w1 ⟨rfl,a1⟩
 have A1:=Lib.hid a1
 clear a1
 go_wp2_with fail
 refine (HG.out _ A1.out).mono ?_; rintro e w2 ⟨rfl,a2⟩
 have A2:=Lib.hid (A1.out.trans a2 (fun _ => fEq))
 clear a2
 go_wp2
 go_ret2
 exact ⟨rfl,A2.out⟩
theorem RCount_ok (h:RAt w b F ρ) (n:Int):Calls Tryz.prog 119 #[.pointer (some ⟨b,0,none⟩),.int .i64 n] w fun e w' => e = .returned (.int .i64 ((ρ.sp n).own + (ρ.sp n).sides)) ∧ Adds w w':=by
 have hg:=fun w1 (a:Adds w w1) => Rat_ok (h.adds a) n
 obtain ⟨hok,ho,hs⟩:=h.1.ok n
 obtain ⟨N,hN⟩:∃ N,N = (ρ.sp n).cells:=⟨_,rfl⟩
 have k0:=Sp.at_own hok
 have k1:=Sp.at_sides hok
 rw [← hN] at k0 k1
 rw [← hN] at hg
 obtain ⟨x,hx⟩:∃ x,x = (ρ.sp n).own:=⟨_,rfl⟩
 obtain ⟨y,hy⟩:∃ y,y = (ρ.sp n).sides:=⟨_,rfl⟩
 rw [← hx] at k0 ho ⊢
 rw [← hy] at k1 hs ⊢
 have hf0:=fun w => run_field_one (P:=Tryz.prog) (w:=w) Tryz.underlying198 (i:=5) rfl (Tryz.isAgg3 w) k0
 have hf1:=fun w => run_field_one (P:=Tryz.prog) (w:=w) Tryz.underlying198 (i:=6) rfl (Tryz.isAgg3 w) k1
 have hw:IntKind.i64.wrap (x + y) = x + y:=IntWalk.i64_in _ (by omega)
 have hw2:wrap64 (x + y) = x + y:=by unfold wrap64; omega
 have HG:=Lib.hid hg
 clear hg hN hok ho hs h hx hy
 go_enter Tryz.func119,Tryz.ntmps119
 go_wp2_with fail
 refine (HG.out _ (Ch.refl _ _)).mono ?_; rintro e w1 ⟨rfl,a1⟩
 have A1:=Lib.hid a1
 clear a1
 go_wp2_with fail
 refine (HG.out _ A1.out).mono ?_; rintro e w2 ⟨rfl,a2⟩
 have A2:=Lib.hid (A1.out.trans a2 (fun _ => fEq))
 clear a2
 go_wp2
 go_ret
 exact ⟨by first | rfl | (simp [hw2]; done),A2.out⟩
theorem RRoom_ok (h:RAt w b F ρ):Calls Tryz.prog 74 #[.pointer (some ⟨b,0,none⟩)] w fun e w' => e = .returned (.int .i64 (ρ.space:Nat)) ∧ w = w':=by
 have HN:=Lib.hid (RNone_no h)
 obtain ⟨ao,cap,vf,hb⟩:=h.head
 have c1:=row_cell hb (i:=1) rfl
 clear hb h
 go_enter Tryz.func74,Tryz.ntmps74
 go_wp2_with fail
 refine HN.out.mono ?_; rintro e w1 ⟨rfl,rfl⟩
 go_wp2
 go_ret
 exact ⟨rfl,rfl⟩
def Rs.rootErr (ρ:Rs) (n:Int):Int:=if n = 0 then 0 else if ρ.has n = false then 7 else if 0 < ρ.depth n then 2 else 0
theorem RRoot_ok (h:RAt w b F ρ) (n:Int):Calls Tryz.prog 104 #[.pointer (some ⟨b,0,none⟩),.int .i64 n] w fun e w' => e = .returned (.int .i64 (ρ.rootErr n)) ∧ Adds w w':=by
 have HN:=Lib.hid (RNone_no h)
 have hh:=RHas_ok h n
 have hd:=RDepth_ok h n
 unfold Rs.rootErr
 obtain ⟨d,hdd⟩:∃ d,d = ρ.depth n:=⟨_,rfl⟩
 rw [← hdd] at hd ⊢
 by_cases h0:n = 0
 · subst h0
   clear hh hd hdd h
   go_enter Tryz.func104,Tryz.ntmps104
   go_wp2_with fail
   refine HN.out.mono ?_; rintro e w1 ⟨rfl,rfl⟩
   go_wp2
   go_ret
   exact ⟨rfl,Ch.refl _ _⟩
 rw [if_neg h0]
 cases hb:ρ.has n with
 | false =>
  rw [hb] at hh
  have HH:=Lib.hid hh
  clear hh hd hdd h hb
  go_enter Tryz.func104,Tryz.ntmps104
  go_wp2_with fail
  refine HN.out.mono ?_; rintro e w1 ⟨rfl,rfl⟩
  go_wp2_with fail
  refine HH.out.mono ?_; rintro e w1 ⟨rfl,rfl⟩
  go_wp2
  go_ret
  exact ⟨rfl,Ch.refl _ _⟩
 | true =>
  rw [hb] at hh
  have HH:=Lib.hid hh
  have HD:=Lib.hid hd
  clear hh hd hdd h hb
  rw [if_neg (by simp)]
  by_cases hp:0 < d
  · have dp:decide ((0:Int) < d) = true:=decide_eq_true hp
    rw [if_pos hp]
    go_enter Tryz.func104,Tryz.ntmps104
    go_wp2_with fail
    refine HN.out.mono ?_; rintro e w1 ⟨rfl,rfl⟩
    go_wp2_with fail
    refine HH.out.mono ?_; rintro e w1 ⟨rfl,rfl⟩
    go_wp2_with fail
    refine HD.out.mono ?_; rintro e w1 ⟨rfl,a1⟩
    have A1:=Lib.hid a1
    clear a1
    go_wp2
    go_ret
    exact ⟨rfl,A1.out⟩
  have dp:decide ((0:Int) < d) = false:=decide_eq_false hp
  rw [if_neg hp]
  go_enter Tryz.func104,Tryz.ntmps104
  go_wp2_with fail
  refine HN.out.mono ?_; rintro e w1 ⟨rfl,rfl⟩
  go_wp2_with fail
  refine HH.out.mono ?_; rintro e w1 ⟨rfl,rfl⟩
  go_wp2_with fail
  refine HD.out.mono ?_; rintro e w1 ⟨rfl,a1⟩
  have A1:=Lib.hid a1
  clear a1
  go_wp2
  go_ret
  exact ⟨rfl,A1.out⟩
end
section
variable {w w' : World} {b : Nat} {F : Nat → Prop} {ρ : Rs}
def Rs.ownB (ρ:Rs) (n:Int):Bool:=decide (n = 0) || (ρ.has n && decide (0 < (ρ.sp n).own))
theorem Rown_ok (h:RAt w b F ρ) (n:Int):Calls Tryz.prog 141 #[.pointer (some ⟨b,0,none⟩),.int .i64 n] w fun e w' => e = .returned (.bool (ρ.ownB n)) ∧ Adds w w':=by
 have hh:=RHas_ok h n
 have hg:=Rat_ok h n
 obtain ⟨hok,ho,hs⟩:=h.1.ok n
 obtain ⟨N,hN⟩:∃ N,N = (ρ.sp n).cells:=⟨_,rfl⟩
 have k0:=Sp.at_own hok
 rw [← hN] at hg k0
 have hfd:=fun w => run_field_one (P:=Tryz.prog) (w:=w) Tryz.underlying198 (i:=5) rfl (Tryz.isAgg3 w) k0
 unfold Rs.ownB
 obtain ⟨x,hx⟩:∃ x,x = (ρ.sp n).own:=⟨_,rfl⟩
 rw [← hx] at hfd ⊢
 have HG:=Lib.hid hg
 by_cases h0:n = 0
 · subst h0
   clear hh hg hok ho hs hN k0 hfd hx h
   go_enter Tryz.func141,Tryz.ntmps141
   go_wp2
   go_ret
   exact ⟨rfl,Ch.refl _ _⟩
 rw [decide_eq_false h0,Bool.false_or]
 have h0b:(n == 0) = false:=by simpa using h0
 cases hb:ρ.has n with
 | false =>
  rw [hb] at hh
  have HH:=Lib.hid hh
  clear hh hg hok ho hs hN k0 hfd hx h hb
  go_enter Tryz.func141,Tryz.ntmps141
  go_wp2_with fail
  refine HH.out.mono ?_; rintro e w1 ⟨rfl,rfl⟩
  go_wp2
  go_ret
  exact ⟨rfl,Ch.refl _ _⟩
 | true =>
  rw [hb] at hh
  have HH:=Lib.hid hh
  rw [Bool.true_and]
  obtain ⟨d,hd⟩:∃ d,d = decide (0 < x):=⟨_,rfl⟩
  rw [← hd]
  clear hh hg hok ho hs hN k0 hx h hb
  cases d
  · have hd':decide ((0:Int) < x) = false:=hd.symm
    clear hd
    go_enter Tryz.func141,Tryz.ntmps141
    go_wp2_with fail
    refine HH.out.mono ?_; rintro e w1 ⟨rfl,rfl⟩
    go_wp2_with fail
    refine HG.out.mono ?_; rintro e w1 ⟨rfl,a1⟩
    have A1:=Lib.hid a1
    clear a1
    go_wp2
    go_ret
    exact ⟨rfl,A1.out⟩
  have hd':decide ((0:Int) < x) = true:=hd.symm
  clear hd
  go_enter Tryz.func141,Tryz.ntmps141
  go_wp2_with fail
  refine HH.out.mono ?_; rintro e w1 ⟨rfl,rfl⟩
  go_wp2_with fail
  refine HG.out.mono ?_; rintro e w1 ⟨rfl,a1⟩
  have A1:=Lib.hid a1
  clear a1
  go_wp2
  go_ret
  exact ⟨rfl,A1.out⟩
def Rs.fullB (ρ:Rs):Bool:=decide (ρ.free.length = 0) && decide (ρ.space ≤ ρ.spots.length)
theorem Rfull_ok (h:RAt w b F ρ):Calls Tryz.prog 134 #[.pointer (some ⟨b,0,none⟩)] w fun e w' => e = .returned (.bool ρ.fullB) ∧ Adds w w':=by
 obtain ⟨h0,vs,vf,h1,h2,h3,_⟩:=h
 obtain ⟨ao,cap,rfl⟩:=owns_form h2
 obtain ⟨af,capf,rfl⟩:=owns_form h3
 have c1:=row_cell h1 (i:=1) rfl
 have c2:=row_cell h1 (i:=2) rfl
 have c3:=row_cell h1 (i:=3) rfl
 unfold Rs.fullB
 obtain ⟨S,hS⟩:∃ S,S = ρ.space:=⟨_,rfl⟩
 obtain ⟨L,hL⟩:∃ L,L = ρ.spots.length:=⟨_,rfl⟩
 obtain ⟨Fl,hF⟩:∃ L,L = ρ.free.length:=⟨_,rfl⟩
 rw [← hS] at c1 ⊢
 rw [← hL] at c2 ⊢
 rw [← hF] at c3 ⊢
 clear h0 h1 h2 h3 hS hL hF
 by_cases hf:Fl = 0
 · subst hf
   by_cases hl:S ≤ L
   · have d1:decide ((S:Int) ≤ (L:Int)) = true:=decide_eq_true (by omega)
     rw [decide_eq_true hl]
     have HLL:=Lib.hid hl
     clear hl
     go_enter Tryz.func134,Tryz.ntmps134
     go_wp2
     go_quiet (fail)
     go_wp2
     go_ret
     exact ⟨by simp [HLL.out],(Ch.refl _ _).drewN _⟩
   have d1:decide ((S:Int) ≤ (L:Int)) = false:=decide_eq_false (by omega)
   rw [decide_eq_false hl]
   have HLL:=Lib.hid hl
   clear hl
   go_enter Tryz.func134,Tryz.ntmps134
   go_wp2
   go_quiet (fail)
   go_wp2
   go_ret
   exact ⟨by simp [HLL.out],(Ch.refl _ _).drewN _⟩
 have d1:¬ ((Fl:Nat):Int) = 0:=by omega
 rw [decide_eq_false hf]
 have d2:((Fl:Int) == 0) = false:=by simpa using d1
 go_enter Tryz.func134,Tryz.ntmps134
 go_wp2
 go_quiet (fail)
 go_wp2
 go_ret
 exact ⟨rfl,(Ch.refl _ _).drewN _⟩
end
section
variable {w w' : World} {b : Nat} {F : Nat → Prop} {ρ : Rs}
theorem RAt.setNum (h:RAt w b F ρ) {m:Nat} {x y:Sp} (hx:ρ.spots[m]? = some x) {g cap:Nat} {vf:Value} (hb:w.heap[b]? = some (.cells #[.bool true,.int .i64 (ρ.space:Nat),.slice (some ⟨g,0,none⟩) ρ.spots.length cap,vf] 126 (0,0)))
 (j:Nat) (v:Value) (hj:j < 39) (hy:x.cells.setIfInBounds j v = y.cells) (hok:y.Ok ∧ (0 ≤ y.own ∧ y.own ≤ 2147483648) ∧ (0 ≤ y.sides ∧ y.sides ≤ 2147483648)) (ha:y.addr = x.addr ∧ y.value = x.value) :
 RAt (w.setCell ⟨g,m * 39 + j,none⟩ v) b F (ρ.setAt m y) ∧ Ch F w (w.setCell ⟨g,m * 39 + j,none⟩ v) ∧ (w.setCell ⟨g,m * 39 + j,none⟩ v).heap[b]? = some (.cells #[.bool true,.int .i64 (ρ.space:Nat),.slice (some ⟨g,0,none⟩) ρ.spots.length cap,vf] 126 (0,0)):=by
 obtain ⟨h0,vs,vf',h1,h2,h3,h4,h5,h6,h7,h8⟩:=h
 rw [hb] at h1
 simp only [Option.some.injEq,Obj.cells.injEq,and_true,true_and,Array.mk.injEq,List.cons.injEq,and_self] at h1
 obtain ⟨rfl,rfl⟩:=h1
 have hm:=(List.getElem?_eq_some_iff.1 hx).1
 obtain ⟨g',cap',cur,e,hg,hc1,hc2,hc3,hc4⟩:=owns_block h2 (by omega)
 cases e
 obtain ⟨fg,gb⟩:=h6 g rfl
 have hsz:∀ a ∈ ρ.spots.map Sp.cells,a.size = 39:=fun a ha => by
  obtain ⟨z,hz,rfl⟩:=List.mem_map.1 ha
  exact Sp.cells_size (h0.nums z hz).1
 have hxm:(ρ.spots.map Sp.cells)[m]? = some x.cells:=by rw [List.getElem?_map,hx]; rfl
 have hb2:=row_set (p:=⟨g,m * 39 + j,none⟩) hb (Ne.symm gb) v
 have hch:Ch (fun k => k = g) w (w.setCell ⟨g,m * 39 + j,none⟩ v):=(Ch.refl (fun k => k = g) w).setCell (p:=⟨g,m * 39 + j,none⟩) (.inl rfl) v
 refine ⟨⟨?_,_,_,hb2,?_,?_,fun z hz => ?_,h5,fun k hk => h6 k hk,h7,fun k hk => by simpa using h8 k hk⟩,(Ch.refl _ w).setCell (p:=⟨g,m * 39 + j,none⟩) (.inl fg) v,hb2⟩
 · refine ⟨h0.space,by simpa [Rs.setAt] using h0.len,fun n hn => by simpa [Rs.setAt] using h0.free n hn,by simpa [Rs.setAt] using h0.flen,fun z hz => ?_⟩
   rcases List.mem_or_eq_of_mem_set hz with hz | rfl
   · exact h0.nums z hz
   exact hok
 · have:=row_set_same hg (m * 39 + j) v
   show World.ownsRow _ 0 _ 39 _ (ρ.spots.set m y).length (flatA ((ρ.spots.set m y).map Sp.cells))
   rw [List.length_set]
   refine owns_mk this hc1 hc2 (by simpa using hc3) ?_
   rw [Array.toList_setIfInBounds,List.take_set,hc4,flatA_set hsz hxm hj,hy,List.map_set]
 · exact hch.owns h3 (fun k hk e => (h7 k hk).2.2 (by subst e; rfl))
 have key:∀ z:Sp,(Bytes w z.addr z.value ∧ ∀ k,z.addr.ownBlock = some k → F k ∧ k ≠ b ∧ (Value.slice (some ⟨g,0,none⟩) ρ.spots.length cap).ownBlock ≠ some k ∧ vf.ownBlock ≠ some k) → Bytes (w.setCell ⟨g,m * 39 + j,none⟩ v) z.addr z.value:=fun z hz =>
  hz.1.keep hch (fun k hk e => (hz.2 k hk).2.2.1 (by subst e; rfl))
 rcases List.mem_or_eq_of_mem_set hz with hz | rfl
 · exact ⟨key z (h4 z hz),(h4 z hz).2⟩
 have hz:=h4 x (List.mem_of_getElem? hx)
 rw [← ha.1, ← ha.2] at hz
 exact ⟨key _ hz,hz.2⟩
def Sp.over (x:Sp):Sp := { x with own:=x.own - 1,sides:=x.sides + 1 }
theorem Rover_zero (h:RAt w b F ρ):Calls Tryz.prog 143 #[.pointer (some ⟨b,0,none⟩),.int .i64 0] w fun e w' => e = .returned (.tuple #[]) ∧ w = w':=by
 go_enter Tryz.func143,Tryz.ntmps143
 go_wp2
 go_end0
 exact ⟨rfl,rfl⟩
theorem Rover_ok (h:RAt w b F ρ) {m:Nat} {x:Sp} (hx:ρ.spots[m]? = some x) (h1:1 ≤ x.own) (h2:x.sides < 2147483648):Calls Tryz.prog 143 #[.pointer (some ⟨b,0,none⟩),.int .i64 ((m:Int) + 1)] w fun e w' => e = .returned (.tuple #[]) ∧ RMoved w w' b F (ρ.setAt m x.over):=by
 obtain ⟨g,cap,cur,vf,hb,hg,q1,q2,q3,q4,q5,hok,hat,hex,fg,gb,hfit⟩:=spot_mem h hx
 obtain ⟨_,hn1,hn2⟩:=h.1.nums x (List.mem_of_getElem? hx)
 have hl:=h.1.len
 have hs:=h.1.space
 obtain ⟨r1,ch1,hb1⟩:=h.setNum hx hb 37 (.int .i64 (x.own - 1)) (by omega) (Sp.set_own hok _) ⟨⟨hok.key,hok.addr,hok.val⟩,⟨by show 0 ≤ x.own - 1; omega,by show x.own - 1 ≤ _; omega⟩,hn2⟩ ⟨rfl,rfl⟩
 have hx1:(ρ.setAt m { x with own:=x.own - 1 }).spots[m]? = some { x with own:=x.own - 1 }:=List.getElem?_set_self q5
 have hb1':(w.setCell ⟨g,m * 39 + 37,none⟩ (.int .i64 (x.own - 1))).heap[b]? = some (.cells #[.bool true,.int .i64 ((ρ.setAt m { x with own:=x.own - 1 }).space:Nat),.slice (some ⟨g,0,none⟩) (ρ.setAt m { x with own:=x.own - 1 }).spots.length cap,vf] 126 (0,0)):=by
  rw [show (ρ.setAt m { x with own:=x.own - 1 }).spots.length = ρ.spots.length from List.length_set ..]; exact hb1
 obtain ⟨r2,ch2,_⟩:=r1.setNum hx1 hb1' 38 (.int .i64 (x.sides + 1)) (by omega) (Sp.set_sides (x := { x with own:=x.own - 1 }) ⟨hok.key,hok.addr,hok.val⟩ _) (y:=x.over) ⟨⟨hok.key,hok.addr,hok.val⟩,⟨by show 0 ≤ x.own - 1; omega,by show x.own - 1 ≤ _; omega⟩,⟨by show 0 ≤ x.sides + 1; omega,by show x.sides + 1 ≤ _; omega⟩⟩ ⟨rfl,rfl⟩
 have hset:(ρ.setAt m { x with own:=x.own - 1 }).setAt m x.over = ρ.setAt m x.over:=by unfold Rs.setAt; simp
 rw [hset] at r2
 have R2:=(hIq r2 (Ch.trans_same ch1 ch2))
 have c2:=row_cell hb (i:=2) rfl
 have co:=row_cell hg (hat 37 _ (by omega) (Sp.at_own hok))
 have cs:=row_cell hg (hat 38 _ (by omega) (Sp.at_sides hok))
 have fo:=row_free hg (m * 39 + 37)
 have fs:=row_free hg (m * 39 + 38)
 have lg:=row_lt hg
 have hbg:b ≠ g:=Ne.symm gb
 obtain ⟨ow,how⟩:∃ o,o = x.own:=⟨_,rfl⟩
 obtain ⟨sd,hsd⟩:∃ o,o = x.sides:=⟨_,rfl⟩
 rw [← how] at co h1 hn1
 rw [← hsd] at cs h2 hn2
 have hw1:IntKind.i64.wrap (ow - 1) = ow - 1:=IntWalk.i64_in _ (by omega)
 have hw2:IntKind.i64.wrap (sd + 1) = sd + 1:=IntWalk.i64_in _ (by omega)
 rw [← how, ← hsd] at R2
 obtain ⟨L,hL⟩:∃ L,L = ρ.spots.length:=⟨_,rfl⟩
 rw [← hL] at c2 q5 hl
 have hml:m ≤ 65535:=by omega
 clear hb hg q1 q2 q3 q4 hok hat hex fg gb hfit h r1 ch1 hb1 hx1 hb1' r2 ch2 hset how hsd hx hL
 go_enter Tryz.func143,Tryz.ntmps143
 go_wp2
 go_end0
 exact ⟨rfl,F,R2.out.1,R2.out.2,fun k hk => .inl hk⟩
theorem Rs.has_some {ρ:Rs} {n:Int} (h:ρ.has n = true):∃ (m:Nat) (x:Sp),n = (m:Int) + 1 ∧ ρ.spots[m]? = some x ∧ x.kind ≠ 0 ∧ ρ.sp n = x:=by
 unfold Rs.has at h
 rcases ρ.parts n with hout | ⟨m,x,rfl,hm,hx⟩
 · rw [ρ.sp_out hout] at h; simp [Sp.zero] at h
 refine ⟨m,x,rfl,hx,?_⟩
 rw [ρ.sp_at hx] at h ⊢
 by_cases e:x.kind = 0
 · rw [if_pos e] at h; simp [Sp.zero] at h
 exact ⟨e,if_neg e⟩
def Rs.bumpOwn (ρ:Rs) (n d:Int):Rs:=match ρ.spots[(n - 1).toNat]? with
 | some x => ρ.setAt (n - 1).toNat { x with own:=x.own + d }
 | none => ρ
theorem Rs.bumpOwn_at {ρ:Rs} {m:Nat} {x:Sp} (hx:ρ.spots[m]? = some x) (d:Int):ρ.bumpOwn ((m:Int) + 1) d = ρ.setAt m { x with own:=x.own + d }:=by
 unfold Rs.bumpOwn
 rw [show ((m:Int) + 1 - 1).toNat = m by omega,hx]
def Rs.holdErr (ρ:Rs) (n:Int):Int:=if ρ.has n = false then 7 else if 1073741824 ≤ (ρ.sp n).own + (ρ.sp n).sides then 4 else 0
theorem RHold_ok (h:RAt w b F ρ) (n:Int):Calls Tryz.prog 66 #[.pointer (some ⟨b,0,none⟩),.int .i64 n] w fun e w' => e = .returned (.int .i64 (ρ.holdErr n)) ∧ RMoved w w' b F (if ρ.holdErr n = 0 then ρ.bumpOwn n 1 else ρ):=by
 have HN:=Lib.hid (RNone_no h)
 have hh:=RHas_ok h n
 cases hb:ρ.has n with
 | false =>
  have he:ρ.holdErr n = 7:=by unfold Rs.holdErr; rw [if_pos hb]
  rw [hb] at hh
  rw [he,if_neg (by omega)]
  have HH:=Lib.hid hh
  have R:=Lib.hid (RMoved.same h (Ch.refl _ _))
  clear hh hb he h
  go_enter Tryz.func66,Tryz.ntmps66
  go_wp2_with fail
  refine HN.out.mono ?_; rintro e w1 ⟨rfl,rfl⟩
  go_wp2_with fail
  refine HH.out.mono ?_; rintro e w1 ⟨rfl,rfl⟩
  go_wp2
  go_ret
  exact ⟨rfl,R.out⟩
 | true =>
  rw [hb] at hh
  have HH:=Lib.hid hh
  have hc:=RCount_ok h n
  obtain ⟨m,x,rfl,hx,hk,hsp⟩:=Rs.has_some hb
  have hnums:=h.1.nums x (List.mem_of_getElem? hx)
  have he:ρ.holdErr ((m:Int) + 1) = if 1073741824 ≤ x.own + x.sides then 4 else 0:=by unfold Rs.holdErr; rw [hb,hsp]; rfl
  rw [hsp] at hc
  obtain ⟨c,hcc⟩:∃ c,c = x.own + x.sides:=⟨_,rfl⟩
  rw [← hcc] at hc he
  have HC:=Lib.hid hc
  by_cases hbig:1073741824 ≤ c
  · have d1:decide ((1073741824:Int) ≤ c) = true:=decide_eq_true hbig
    rw [if_pos hbig] at he
    rw [he,if_neg (by omega)]
    have HR:=Lib.hid h
    clear hh hb he hc hcc h hx hk hsp hnums hbig
    go_enter Tryz.func66,Tryz.ntmps66
    go_wp2_with fail
    refine HN.out.mono ?_; rintro e w1 ⟨rfl,rfl⟩
    go_wp2_with fail
    refine HH.out.mono ?_; rintro e w1 ⟨rfl,rfl⟩
    go_wp2_with fail
    refine HC.out.mono ?_; rintro e w1 ⟨rfl,a1⟩
    have A1:=Lib.hid a1
    clear a1
    go_wp2
    go_ret
    exact ⟨rfl,RMoved.same HR.out A1.out⟩
  have d1:decide ((1073741824:Int) ≤ c) = false:=decide_eq_false hbig
  rw [if_neg hbig] at he
  rw [he,if_pos rfl,Rs.bumpOwn_at hx]
  have HR:=(hIq h (aIq hx (aIq hnums (by omega:x.own + x.sides < 1073741824))))
  have hl:=h.1.len
  have hs:=h.1.space
  clear hh hb he hc hcc h hk hsp hnums hbig
  go_enter Tryz.func66,Tryz.ntmps66
  go_wp2_with fail
  refine HN.out.mono ?_; rintro e w1 ⟨rfl,rfl⟩
  go_wp2_with fail
  refine HH.out.mono ?_; rintro e w1 ⟨rfl,rfl⟩
  go_wp2_with fail
  refine HC.out.mono ?_; rintro e w1 ⟨rfl,a1⟩
  have h1:=HR.out.1.adds a1
  obtain ⟨g,cap,cur,vf,hb,hg,q1,q2,q3,q4,q5,hok,hat,hex,fg,gb,hfit⟩:=spot_mem h1 hx
  have hn:=HR.out.2.2.1
  have hlt:=HR.out.2.2.2
  obtain ⟨r1,ch1,hb1⟩:=h1.setNum hx hb 37 (.int .i64 (x.own + 1)) (by omega) (Sp.set_own hok _) (y := { x with own:=x.own + 1 }) ⟨⟨hok.key,hok.addr,hok.val⟩,⟨by show 0 ≤ x.own + 1; omega,by show x.own + 1 ≤ _; omega⟩,hn.2.2⟩ ⟨rfl,rfl⟩
  have R:=(hIq r1 (aIq ch1 a1))
  have c2:=row_cell hb (i:=2) rfl
  have co:=row_cell hg (hat 37 _ (by omega) (Sp.at_own hok))
  have fo:=row_free hg (m * 39 + 37)
  have lg:=row_lt hg
  obtain ⟨ow,how⟩:∃ o,o = x.own:=⟨_,rfl⟩
  have hoo:IntKind.i64.wrap (ow + 1) = ow + 1:=IntWalk.i64_in _ (by omega)
  rw [← how] at co R
  have HOW:=Lib.hid how
  obtain ⟨L,hL⟩:∃ L,L = ρ.spots.length:=⟨_,rfl⟩
  rw [← hL] at c2 q5 hl
  have hml:m ≤ 65535:=by omega
  clear hb hg q1 q2 q3 q4 hok hat hex fg gb hfit h1 r1 ch1 hb1 a1 how hL hn hlt hx
  go_wp2
  go_ret
  have how':=HOW.out
  subst how'
  refine ⟨rfl,RMoved.from R.out.2.2 ⟨F,R.out.1,R.out.2.1,fun k hk => .inl hk⟩⟩
end
end Go.Proofs.YtmeglndnkdgkoaaGreat.Store

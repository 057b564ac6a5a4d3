/- Laws of the layers below. -/
import Derived.Test.YtmeglndnkdgkoaaGreatQf2
set_option maxHeartbeats 3200000
set_option maxRecDepth 100000
set_option linter.unusedVariables false
namespace Go.Proofs.YtmeglndnkdgkoaaGreat.ShaW
open Go.RowKit
theorem rturn_u (x:UInt32) (n:Nat) (A B:Int) (h0:0 < n) (h:n < 32) (hA:A = 2 ^ (32 - n)) (hB:B = 2 ^ n):bits .or .u32 ((x.toNat:Int) / B) ((x.toNat:Int) * A % 4294967296) = ((rotr x n).toNat:Int):=by
 rw [shl_u x (32 - n) A (by omega) hA,shr_u x n B h hB,or_u,rotr,UInt32.or_comm]
theorem turned2 (x:UInt32) (w:World):Calls Tryz.prog 259 #[wv x,.int .i64 2] w fun e w' => e = .returned (wv (rotr x 2)) ∧ w' = w.drew:=by
 go_enter Tryz.func259,Tryz.ntmps259
 go_wp2
 refine wp_region_plan (fun w0 => w0 = (w).drew) 9 [(0,false),(1,false),(2,false),(3,false),(4,false),(5,false),(6,false),(7,false),(8,false)] (by kernel_rfl) (by kernel_rfl) rfl ?_
 iterate 9 refine plan_look rfl rfl (fun w0 hS => (by subst hS; go_simp; try rfl)) ?_
 refine plan_end ?_
 simp only [List.drop_succ_cons,List.drop_zero,Act.put,List.setIfInBounds_toArray,List.set_cons_succ,List.set_cons_zero]
 go_wp2
 refine NoPanic.normal ?_
 go_wp2
 go_ret
 exact ⟨congrArg (fun z => Ending.returned (.int .u32 z)) (rturn_u x 2 1073741824 4 (by omega) (by omega) rfl rfl),rfl⟩
theorem turned6 (x:UInt32) (w:World):Calls Tryz.prog 259 #[wv x,.int .i64 6] w fun e w' => e = .returned (wv (rotr x 6)) ∧ w' = w.drew:=by
 go_enter Tryz.func259,Tryz.ntmps259
 go_wp2
 refine wp_region_plan (fun w0 => w0 = (w).drew) 9 [(0,false),(1,false),(2,false),(3,false),(4,false),(5,false),(6,false),(7,false),(8,false)] (by kernel_rfl) (by kernel_rfl) rfl ?_
 iterate 9 refine plan_look rfl rfl (fun w0 hS => (by subst hS; go_simp; try rfl)) ?_
 refine plan_end ?_
 simp only [List.drop_succ_cons,List.drop_zero,Act.put,List.setIfInBounds_toArray,List.set_cons_succ,List.set_cons_zero]
 go_wp2
 refine NoPanic.normal ?_
 go_wp2
 go_ret
 exact ⟨congrArg (fun z => Ending.returned (.int .u32 z)) (rturn_u x 6 67108864 64 (by omega) (by omega) rfl rfl),rfl⟩
theorem turned7 (x:UInt32) (w:World):Calls Tryz.prog 259 #[wv x,.int .i64 7] w fun e w' => e = .returned (wv (rotr x 7)) ∧ w' = w.drew:=by
 go_enter Tryz.func259,Tryz.ntmps259
 go_wp2
 refine wp_region_plan (fun w0 => w0 = (w).drew) 9 [(0,false),(1,false),(2,false),(3,false),(4,false),(5,false),(6,false),(7,false),(8,false)] (by kernel_rfl) (by kernel_rfl) rfl ?_
 iterate 9 refine plan_look rfl rfl (fun w0 hS => (by subst hS; go_simp; try rfl)) ?_
 refine plan_end ?_
 simp only [List.drop_succ_cons,List.drop_zero,Act.put,List.setIfInBounds_toArray,List.set_cons_succ,List.set_cons_zero]
 go_wp2
 refine NoPanic.normal ?_
 go_wp2
 go_ret
 exact ⟨congrArg (fun z => Ending.returned (.int .u32 z)) (rturn_u x 7 33554432 128 (by omega) (by omega) rfl rfl),rfl⟩
theorem turned11 (x:UInt32) (w:World):Calls Tryz.prog 259 #[wv x,.int .i64 11] w fun e w' => e = .returned (wv (rotr x 11)) ∧ w' = w.drew:=by
 go_enter Tryz.func259,Tryz.ntmps259
 go_wp2
 refine wp_region_plan (fun w0 => w0 = (w).drew) 9 [(0,false),(1,false),(2,false),(3,false),(4,false),(5,false),(6,false),(7,false),(8,false)] (by kernel_rfl) (by kernel_rfl) rfl ?_
 iterate 9 refine plan_look rfl rfl (fun w0 hS => (by subst hS; go_simp; try rfl)) ?_
 refine plan_end ?_
 simp only [List.drop_succ_cons,List.drop_zero,Act.put,List.setIfInBounds_toArray,List.set_cons_succ,List.set_cons_zero]
 go_wp2
 refine NoPanic.normal ?_
 go_wp2
 go_ret
 exact ⟨congrArg (fun z => Ending.returned (.int .u32 z)) (rturn_u x 11 2097152 2048 (by omega) (by omega) rfl rfl),rfl⟩
theorem turned13 (x:UInt32) (w:World):Calls Tryz.prog 259 #[wv x,.int .i64 13] w fun e w' => e = .returned (wv (rotr x 13)) ∧ w' = w.drew:=by
 go_enter Tryz.func259,Tryz.ntmps259
 go_wp2
 refine wp_region_plan (fun w0 => w0 = (w).drew) 9 [(0,false),(1,false),(2,false),(3,false),(4,false),(5,false),(6,false),(7,false),(8,false)] (by kernel_rfl) (by kernel_rfl) rfl ?_
 iterate 9 refine plan_look rfl rfl (fun w0 hS => (by subst hS; go_simp; try rfl)) ?_
 refine plan_end ?_
 simp only [List.drop_succ_cons,List.drop_zero,Act.put,List.setIfInBounds_toArray,List.set_cons_succ,List.set_cons_zero]
 go_wp2
 refine NoPanic.normal ?_
 go_wp2
 go_ret
 exact ⟨congrArg (fun z => Ending.returned (.int .u32 z)) (rturn_u x 13 524288 8192 (by omega) (by omega) rfl rfl),rfl⟩
theorem turned17 (x:UInt32) (w:World):Calls Tryz.prog 259 #[wv x,.int .i64 17] w fun e w' => e = .returned (wv (rotr x 17)) ∧ w' = w.drew:=by
 go_enter Tryz.func259,Tryz.ntmps259
 go_wp2
 refine wp_region_plan (fun w0 => w0 = (w).drew) 9 [(0,false),(1,false),(2,false),(3,false),(4,false),(5,false),(6,false),(7,false),(8,false)] (by kernel_rfl) (by kernel_rfl) rfl ?_
 iterate 9 refine plan_look rfl rfl (fun w0 hS => (by subst hS; go_simp; try rfl)) ?_
 refine plan_end ?_
 simp only [List.drop_succ_cons,List.drop_zero,Act.put,List.setIfInBounds_toArray,List.set_cons_succ,List.set_cons_zero]
 go_wp2
 refine NoPanic.normal ?_
 go_wp2
 go_ret
 exact ⟨congrArg (fun z => Ending.returned (.int .u32 z)) (rturn_u x 17 32768 131072 (by omega) (by omega) rfl rfl),rfl⟩
theorem turned18 (x:UInt32) (w:World):Calls Tryz.prog 259 #[wv x,.int .i64 18] w fun e w' => e = .returned (wv (rotr x 18)) ∧ w' = w.drew:=by
 go_enter Tryz.func259,Tryz.ntmps259
 go_wp2
 refine wp_region_plan (fun w0 => w0 = (w).drew) 9 [(0,false),(1,false),(2,false),(3,false),(4,false),(5,false),(6,false),(7,false),(8,false)] (by kernel_rfl) (by kernel_rfl) rfl ?_
 iterate 9 refine plan_look rfl rfl (fun w0 hS => (by subst hS; go_simp; try rfl)) ?_
 refine plan_end ?_
 simp only [List.drop_succ_cons,List.drop_zero,Act.put,List.setIfInBounds_toArray,List.set_cons_succ,List.set_cons_zero]
 go_wp2
 refine NoPanic.normal ?_
 go_wp2
 go_ret
 exact ⟨congrArg (fun z => Ending.returned (.int .u32 z)) (rturn_u x 18 16384 262144 (by omega) (by omega) rfl rfl),rfl⟩
theorem turned19 (x:UInt32) (w:World):Calls Tryz.prog 259 #[wv x,.int .i64 19] w fun e w' => e = .returned (wv (rotr x 19)) ∧ w' = w.drew:=by
 go_enter Tryz.func259,Tryz.ntmps259
 go_wp2
 refine wp_region_plan (fun w0 => w0 = (w).drew) 9 [(0,false),(1,false),(2,false),(3,false),(4,false),(5,false),(6,false),(7,false),(8,false)] (by kernel_rfl) (by kernel_rfl) rfl ?_
 iterate 9 refine plan_look rfl rfl (fun w0 hS => (by subst hS; go_simp; try rfl)) ?_
 refine plan_end ?_
 simp only [List.drop_succ_cons,List.drop_zero,Act.put,List.setIfInBounds_toArray,List.set_cons_succ,List.set_cons_zero]
 go_wp2
 refine NoPanic.normal ?_
 go_wp2
 go_ret
 exact ⟨congrArg (fun z => Ending.returned (.int .u32 z)) (rturn_u x 19 8192 524288 (by omega) (by omega) rfl rfl),rfl⟩
theorem turned22 (x:UInt32) (w:World):Calls Tryz.prog 259 #[wv x,.int .i64 22] w fun e w' => e = .returned (wv (rotr x 22)) ∧ w' = w.drew:=by
 go_enter Tryz.func259,Tryz.ntmps259
 go_wp2
 refine wp_region_plan (fun w0 => w0 = (w).drew) 9 [(0,false),(1,false),(2,false),(3,false),(4,false),(5,false),(6,false),(7,false),(8,false)] (by kernel_rfl) (by kernel_rfl) rfl ?_
 iterate 9 refine plan_look rfl rfl (fun w0 hS => (by subst hS; go_simp; try rfl)) ?_
 refine plan_end ?_
 simp only [List.drop_succ_cons,List.drop_zero,Act.put,List.setIfInBounds_toArray,List.set_cons_succ,List.set_cons_zero]
 go_wp2
 refine NoPanic.normal ?_
 go_wp2
 go_ret
 exact ⟨congrArg (fun z => Ending.returned (.int .u32 z)) (rturn_u x 22 1024 4194304 (by omega) (by omega) rfl rfl),rfl⟩
theorem turned25 (x:UInt32) (w:World):Calls Tryz.prog 259 #[wv x,.int .i64 25] w fun e w' => e = .returned (wv (rotr x 25)) ∧ w' = w.drew:=by
 go_enter Tryz.func259,Tryz.ntmps259
 go_wp2
 refine wp_region_plan (fun w0 => w0 = (w).drew) 9 [(0,false),(1,false),(2,false),(3,false),(4,false),(5,false),(6,false),(7,false),(8,false)] (by kernel_rfl) (by kernel_rfl) rfl ?_
 iterate 9 refine plan_look rfl rfl (fun w0 hS => (by subst hS; go_simp; try rfl)) ?_
 refine plan_end ?_
 simp only [List.drop_succ_cons,List.drop_zero,Act.put,List.setIfInBounds_toArray,List.set_cons_succ,List.set_cons_zero]
 go_wp2
 refine NoPanic.normal ?_
 go_wp2
 go_ret
 exact ⟨congrArg (fun z => Ending.returned (.int .u32 z)) (rturn_u x 25 128 33554432 (by omega) (by omega) rfl rfl),rfl⟩
def partW (b:List UInt8) (k:Nat):Nat → UInt32
 | 0 => 0
 | j + 1 => wa (partW b k j <<< 8) (b.getD (4 * k + j) 0).toUInt32
theorem or_add (x y:UInt32) (i:Nat) (hi:i < 32) (hx:x.toNat < 2 ^ (32 - i)) (hy:y.toNat < 2 ^ i):((x <<< UInt32.ofNat i) ||| y).toNat = x.toNat * 2 ^ i + y.toNat:=by
 have hm:(UInt32.ofNat i).toNat % 32 = i:=by rw [UInt32.toNat_ofNat']; omega
 have hp:x.toNat * 2 ^ i < 2 ^ 32:=by
  have:=Nat.mul_lt_mul_of_pos_right hx (Nat.two_pow_pos i)
  rwa [← Nat.pow_add,show 32 - i + i = 32 by omega] at this
 rw [UInt32.toNat_or,UInt32.toNat_shiftLeft,hm,Nat.shiftLeft_eq,Nat.mod_eq_of_lt hp, ← Nat.shiftLeft_eq, ← Nat.shiftLeft_add_eq_or_of_lt hy,Nat.shiftLeft_eq]
theorem be_nat (a b c d:UInt8):(Sha.be a b c d).toNat = ((a.toNat * 256 + b.toNat) * 256 + c.toNat) * 256 + d.toNat:=by
 have ha:=a.toNat_lt
 have hb:=b.toNat_lt
 have hc:=c.toNat_lt
 have hd:=d.toNat_lt
 have e1:((a.toUInt32 <<< 24) ||| (b.toUInt32 <<< 16)).toNat = a.toNat * 16777216 + b.toNat * 65536:=by
  have hb2:(b.toUInt32 <<< 16).toNat = b.toNat * 65536:=by
   rw [UInt32.toNat_shiftLeft]
   show b.toUInt32.toNat <<< 16 % 2 ^ 32 = _
   rw [UInt8.toNat_toUInt32,Nat.shiftLeft_eq]
   omega
  have:=or_add a.toUInt32 (b.toUInt32 <<< 16) 24 (by omega) (by rw [UInt8.toNat_toUInt32]; omega) (by rw [hb2]; omega)
  rw [hb2,UInt8.toNat_toUInt32] at this
  exact this
 have e2:(((a.toUInt32 <<< 24) ||| (b.toUInt32 <<< 16)) ||| (c.toUInt32 <<< 8)).toNat = a.toNat * 16777216 + b.toNat * 65536 + c.toNat * 256:=by
  have hc2:(c.toUInt32 <<< 8).toNat = c.toNat * 256:=by
   rw [UInt32.toNat_shiftLeft]
   show c.toUInt32.toNat <<< 8 % 2 ^ 32 = _
   rw [UInt8.toNat_toUInt32,Nat.shiftLeft_eq]
   omega
  rw [UInt32.toNat_or,e1,hc2,show a.toNat * 16777216 + b.toNat * 65536 = (a.toNat * 256 + b.toNat) <<< 16 by rw [Nat.shiftLeft_eq]; omega, ← Nat.shiftLeft_add_eq_or_of_lt (by omega)]
 have hd2:d.toUInt32.toNat = d.toNat:=UInt8.toNat_toUInt32 d
 unfold Sha.be
 rw [UInt32.toNat_or,e2,hd2,show a.toNat * 16777216 + b.toNat * 65536 + c.toNat * 256 = (a.toNat * 65536 + b.toNat * 256 + c.toNat) <<< 8 by rw [Nat.shiftLeft_eq]; omega, ← Nat.shiftLeft_add_eq_or_of_lt (by omega),Nat.shiftLeft_eq]
 omega
theorem part_nat (p:UInt32) (x:UInt8) (hp:p.toNat < 16777216):(wa (p <<< 8) x.toUInt32).toNat = p.toNat * 256 + x.toNat:=by
 have hx:=x.toNat_lt
 unfold wa
 rw [UInt32.toNat_add,UInt32.toNat_shiftLeft]
 show (p.toNat <<< 8 % 2 ^ 32 + x.toUInt32.toNat) % 2 ^ 32 = _
 rw [UInt8.toNat_toUInt32,Nat.shiftLeft_eq]
 omega
theorem partW_word (b:List UInt8) (k:Nat):partW b k 4 = Sha.word b k:=by
 apply UInt32.toNat.inj
 unfold Sha.word
 rw [be_nat]
 have h0:=(b.getD (4 * k) 0).toNat_lt
 have h1:=(b.getD (4 * k + 1) 0).toNat_lt
 have h2:=(b.getD (4 * k + 2) 0).toNat_lt
 have h3:=(b.getD (4 * k + 3) 0).toNat_lt
 have p1:(partW b k 1).toNat = (b.getD (4 * k) 0).toNat:=by
  show (wa (partW b k 0 <<< 8) _).toNat = _
  rw [part_nat _ _ (by show (0:UInt32).toNat < _; decide)]
  show (0:UInt32).toNat * 256 + _ = _
  simp
 have p2:(partW b k 2).toNat = (b.getD (4 * k) 0).toNat * 256 + (b.getD (4 * k + 1) 0).toNat:=by
  show (wa (partW b k 1 <<< 8) _).toNat = _
  rw [part_nat _ _ (by rw [p1]; omega),p1]
 have p3:(partW b k 3).toNat = ((b.getD (4 * k) 0).toNat * 256 + (b.getD (4 * k + 1) 0).toNat) * 256 + (b.getD (4 * k + 2) 0).toNat:=by
  show (wa (partW b k 2 <<< 8) _).toNat = _
  rw [part_nat _ _ (by rw [p2]; omega),p2]
 show (wa (partW b k 3 <<< 8) _).toNat = _
 rw [part_nat _ _ (by rw [p3]; omega),p3]
theorem partw_val (p:UInt32) (x:UInt8):((p.toNat:Int) * (256:Int) + (x.toNat:Int)) % (4294967296:Int) = ((wa (p <<< 8) x.toUInt32).toNat:Int):=by
 have hx:=x.toNat_lt
 have hp:=p.toNat_lt
 unfold wa
 rw [UInt32.toNat_add,UInt32.toNat_shiftLeft]
 show _ = (((p.toNat <<< 8 % 2 ^ 32 + x.toUInt32.toNat) % 2 ^ 32:Nat):Int)
 rw [UInt8.toNat_toUInt32,Nat.shiftLeft_eq]
 omega
theorem sig1w (x:UInt32):bits .xor .u32 ((wx (rotr x 17) (rotr x 19)).toNat:Int) ((x.toNat:Int) / (1024:Int)) = ((Sha.sig1 x).toNat:Int):=by
 have h:(x.toNat:Int) / (1024:Int) = ((x >>> 10).toNat:Int):=shr_u10 x
 rw [h,xor_u]
 rfl
theorem sig0w (x:UInt32):bits .xor .u32 ((wx (rotr x 7) (rotr x 18)).toNat:Int) ((x.toNat:Int) / (8:Int)) = ((Sha.sig0 x).toNat:Int):=by
 have h:(x.toNat:Int) / (8:Int) = ((x >>> 3).toNat:Int):=shr_u3 x
 rw [h,xor_u]
 rfl
theorem set_self {A:Array Value} {k:Nat} {v:Value} (h:A[k]? = some v):A.setIfInBounds k v = A:=by
 apply Array.ext'
 rw [Array.toList_setIfInBounds]
 rw [← Array.getElem?_toList] at h
 obtain ⟨hk,rfl⟩:=List.getElem?_eq_some_iff.1 h
 exact List.set_getElem_self hk
theorem pad64_zero {l:List UInt32} (h:l.length < 64):(wrow (pad64 l))[l.length]? = some (wv 0):=by
 have:(List.map wv (l ++ List.replicate (64 - l.length) 0))[l.length]? = some (wv 0):=by
  rw [List.getElem?_map,List.getElem?_append_right (Nat.le_refl _),Nat.sub_self,List.getElem?_replicate,if_pos (by omega)]
  rfl
 simpa [wrow,pad64] using this
theorem rconstants_ok (w:World):Calls Tryz.prog 258 #[] w fun e w' => e = .returned (.agg (wrow Sha.kc)) ∧ Ch (fun _ => False) w w':=by
 obtain ⟨K,hK⟩:∃ K,wrow Sha.kc = K:=⟨_,rfl⟩
 have hs:K.size = 64:=by rw [← hK]; rfl
 have h1:=wrow_one Sha.kc
 rw [hK] at h1 ⊢
 obtain ⟨Z,hZ⟩:∃ Z,zeroW 64 = Z:=⟨_,rfl⟩
 have z0:=zero64
 have z1:Z.size = 64:=by rw [← hZ]; rfl
 rw [hZ] at z0
 have HK:=Lib.hid hK
 have HS:=Lib.hid hs
 have H1:=Lib.hid h1
 have Z0:=Lib.hid z0
 have Z1:=Lib.hid z1
 clear hK hs h1 z0 z1 hZ
 go_enter Tryz.func258,Tryz.ntmps258
 go_wp2_with (first
  | ((with_reducible show zOq (.alloc 301)); refine wpList_alloc_is rfl 301 rfl (.agg Z) Z0.out ?_; dsimp only [Value.cells]; try simp only [World.size_alloc])
  | ((with_reducible show zOq (.build 301 _)); refine wpList_build_is rfl 301 _ rfl K (by rw [← HK.out]; kernel_rfl) ?_)
  | ((with_reducible show zOq (.store 301 _ _)); refine wpList_store_part rfl 301 _ _ rfl w.heap.size 0 K rfl rfl (heap_alloc_new _ _) (by rw [size64,HS.out]) (by rw [HS.out,Z1.out]; omega) H1.out K (by rw [splice_all _ _ (by rw [Array.length_toList,Array.length_toList,HS.out,Z1.out])]) ?_))
 exact bodyPost_ret_cell1 (p:=0) rfl rfl (row_setRow_same (heap_alloc_new _ _) _) Tryz.underlying301 rfl (by rw [size64,HS.out]) rfl ⟨rfl,((Ch.refl _ _).alloc _).setRow (.inr (Nat.le_refl _)) _⟩
theorem rwords_ok {w:World} {g off cap:Nat} {bs:List UInt8} (hb:Bytes w (.slice (some ⟨g,off,none⟩) 64 cap) bs) :
 Calls Tryz.prog 257 #[.slice (some ⟨g,off,none⟩) 64 cap] w fun e w' => e = .returned (.agg (wrow (Sha.sched bs))) ∧ Ch (fun _ => False) w w':=by
 obtain ⟨hbl,hbx⟩:=hb.at
 have hby:∀ j,j < 64 → w.cell? ⟨g,off + j,none⟩ = some (bv (bs.getD j 0)):=fun j hj => by
  obtain ⟨g',off',e,hc⟩:=hbx j (bs.getD j 0) (by rw [List.getD_eq_getElem?_getD,List.getElem?_eq_getElem (by omega)]; rfl)
  cases e
  exact hc
 have z0:=zero64
 obtain ⟨Z,hZ⟩:∃ Z,zeroW 64 = Z:=⟨_,rfl⟩
 rw [hZ] at z0
 have Z0:=(hIq z0 (aIq hZ (by rw [← hZ]; simp [zeroW]:Z.size = 64)))
 have HBY:=Lib.hid hby
 clear z0 hZ hby hbx hbl hb
 go_enter Tryz.func257,Tryz.ntmps257
 go_wp2_with (first | ((with_reducible show zOq (.alloc 301)); refine wpList_alloc_is rfl 301 rfl (.agg Z) Z0.out.1 ?_; dsimp only [Value.cells]; try simp only [World.size_alloc]))
 go_loopg [4,5] 16 (fun gg s4 s5 wr => ∃ k:Nat,k ≤ 16 ∧ gg = 16 - k ∧ s4 = .int .i64 k ∧ wr.heap[w.heap.size + 1]? = some (.cells (wrow (pad64 (Sha.w16 bs k))) 301 (0,0)) ∧ wr.heap[w.heap.size]? = some (.cells Z 301 (0,0)) ∧ Ch (fun _ => False) w wr)
 case atStart =>
  have hmz:wrow (pad64 (Sha.w16 bs 0)) = Z:=by rw [← Z0.out.2.1]; exact pad64_nil
  refine ⟨0,Nat.zero_le _,rfl,rfl,?_,?_,?_⟩
  · rw [hmz]
    have:=heap_alloc_new (w.alloc (.cells Z 301)) (.cells Z 301)
    simpa using this
  · exact row_alloc (heap_alloc_new _ _) _
  exact ((Ch.refl _ _).alloc _).alloc _
 obtain ⟨k,hk,rfl,rfl,hrw,hr2,hch⟩:=hrel
 by_cases hkl:k < 16
 · have hkz:(k:Int) < 16:=by omega
   have hl:(Sha.w16 bs k).length = k:=Sha.w16_length _ _
   have h0:=pad64_zero (l:=Sha.w16 bs k) (by omega)
   rw [hl] at h0
   obtain ⟨A,hA⟩:∃ A,A = wrow (pad64 (Sha.w16 bs k)):=⟨_,rfl⟩
   have hAs:A.size = 64:=by rw [hA,wrow_size,pad64_length (by omega)]
   have hend:A.setIfInBounds k (wv (partW bs k 4)) = wrow (pad64 (Sha.w16 bs (k + 1))):=by
    have:=pad64_set (l:=Sha.w16 bs k) (by omega) (Sha.word bs k)
    rw [hl] at this
    rw [partW_word,hA,this,Sha.w16_succ]
   rw [← hA] at hrw h0
   have hs0:A.setIfInBounds k (wv (partW bs k 0)) = A:=set_self h0
   have HA:=(hIq hAs (aIq hend hs0))
   have HR2:=(hIq hr2 hch)
   have hk15:k ≤ 15:=by omega
   have hk15':(k:Int) ≤ 15:=by omega
   have HRW:=Lib.hid hrw
   obtain ⟨wo,hwo⟩:∃ wo:World,wo = wr:=⟨_,rfl⟩
   subst hwo
   clear hl h0 hA hAs hend hs0 hr2 hch hrw hk hkl
   go_wp2
   go_loopg [5] 4 (fun gg s5 wr => ∃ j:Nat,j ≤ 4 ∧ gg = 4 - j ∧ s5 = .int .i64 j ∧ wr.heap[w.heap.size + 1]? = some (.cells (A.setIfInBounds k (wv (partW bs k j))) 301 (0,0)) ∧ wr.heap[w.heap.size]? = some (.cells Z 301 (0,0)) ∧ Ch (fun _ => False) w wr)
   case atStart => exact ⟨0,Nat.zero_le _,rfl,rfl,by rw [HA.out.2.2]; exact HRW.out,HR2.out.1,HR2.out.2⟩
   obtain ⟨j,hj,rfl,rfl,hrw,hr2,hch⟩:=hrel
   by_cases hjl:j < 4
   · have hjz:(j:Int) < 4:=by omega
     have c1:=hch.cell (HBY.out (4 * k + j) (by omega)) id
     have hp:partW bs k (j + 1) = wa (partW bs k j <<< 8) (bs.getD (4 * k + j) 0).toUInt32:=rfl
     have c2:=row_cell hrw (i:=k) (v:=wv (partW bs k j)) (by rw [Array.getElem?_setIfInBounds_self_of_lt (by rw [HA.out.1]; omega)])
     generalize bs.getD (4 * k + j) 0 = x at c1 hp
     generalize partW bs k j = p at c2 hp hrw
     have f2:=row_free hrw k
     have l2:=row_lt hrw
     have HRW2:=Lib.hid hrw
     have HR3:=(hIq hr2 hch)
     have HP:=Lib.hid hp
     have i0:0 ≤ (k:Int):=by omega
     have i1:(k:Int) < 64:=by omega
     have i2:(k:Int).toNat = k:=by omega
     have j0:0 ≤ 4 * (k:Int) + (j:Int):=by omega
     have j1:4 * (k:Int) + (j:Int) < 64:=by omega
     have j2:(4 * (k:Int) + (j:Int)).toNat = 4 * k + j:=by omega
     have w1:IntKind.i64.wrap (4 * (k:Int)) = 4 * k:=IntWalk.i64_in _ (by omega)
     have w2:IntKind.i64.wrap (4 * (k:Int) + (j:Int)) = 4 * k + j:=IntWalk.i64_in _ (by omega)
     clear hrw hr2 hch hp
     go_wp2
     go_still_tail 14,(by kernel_rfl)
     show wpList _ _ _ _ _ wr.drew
     go_wp2
     go_roundg (4 - (j + 1))
     case measure => omega
     refine ⟨j + 1,by omega,rfl,by go_num,?_,row_drew (row_set HR3.out.1 (by simp only [ne_eq]; omega) _),(HR3.out.2.setCell (p:=⟨w.heap.size + 1,k,none⟩) (.inr (by simp only; omega)) _).drew⟩
     rw [partw_val]
     refine row_drew ?_
     have:=row_set_same HRW2.out k (wv (wa (p <<< 8) x.toUInt32))
     rw [Array.setIfInBounds_setIfInBounds] at this
     rw [HP.out]
     exact this
   obtain rfl:j = 4:=by omega
   have hjz:¬ ((4:Nat):Int) < 4:=by omega
   have HB:=(hIq hrw (aIq hr2 hch))
   clear hrw hr2 hch
   go_wp2
   go_roundg (16 - (k + 1))
   case measure => omega
   exact ⟨k + 1,by omega,rfl,by go_num,by rw [← HA.out.2.1]; exact HB.out.1,HB.out.2.1,HB.out.2.2⟩
 obtain rfl:k = 16:=by omega
 obtain ⟨wo,hwo⟩:∃ wo:World,wo = wr:=⟨_,rfl⟩
 subst hwo
 have hkl':¬ ((16:Nat):Int) < 16:=by omega
 have HRW:=Lib.hid hrw
 have HCR:=Lib.hid hr2
 have HCH:=Lib.hid hch
 clear hrw hr2 hch hkl
 go_wp2
 go_loopg [6,7,8,9,10] 48 (fun gg s6 s7 s8 s9 s10 wr => ∃ n:Nat,n ≤ 48 ∧ gg = 48 - n ∧ s6 = .int .i64 (16 + n) ∧ wr.heap[w.heap.size + 1]? = some (.cells (wrow (pad64 (Sha.ext (Sha.w16 bs 16) n))) 301 (0,0)) ∧
  wr.heap[w.heap.size]? = some (.cells Z 301 (0,0)) ∧ Ch (fun _ => False) w wr)
 case atStart => exact ⟨0,Nat.zero_le _,rfl,rfl,HRW.out,HCR.out,HCH.out⟩
 obtain ⟨n,hn,rfl,rfl,hrw,hr2,hch⟩:=hrel
 by_cases hnl:n < 48
 · have hl:(Sha.ext (Sha.w16 bs 16) n).length = 16 + n:=by rw [Sha.ext_length,Sha.w16_length]
   have hg:∀ d:Nat,0 < d → d ≤ 16 → wr.cell? ⟨w.heap.size + 1,16 + n - d,none⟩ = some (wv ((Sha.ext (Sha.w16 bs 16) n).getD ((Sha.ext (Sha.w16 bs 16) n).length - d) 0)):=fun d h0 h1 => by
    have:=row_cell hrw (pad64_get (l:=Sha.ext (Sha.w16 bs 16) n) (i:=(Sha.ext (Sha.w16 bs 16) n).length - d) (by omega))
    rw [hl] at this ⊢
    exact this
   have c2:=hg 2 (by omega) (by omega)
   have c7:=hg 7 (by omega) (by omega)
   have c15:=hg 15 (by omega) (by omega)
   have c16:=hg 16 (by omega) (by omega)
   rw [show 16 + n - 16 = n by omega] at c16
   obtain ⟨L,hL⟩:∃ L,L = Sha.ext (Sha.w16 bs 16) n:=⟨_,rfl⟩
   have hne:Sha.next L = ((Sha.sig1 (L.getD (L.length - 2) 0) + L.getD (L.length - 7) 0) + Sha.sig0 (L.getD (L.length - 15) 0)) + L.getD (L.length - 16) 0:=rfl
   have hex:Sha.ext (Sha.w16 bs 16) (n + 1) = L ++ [Sha.next L]:=by rw [hL]; rfl
   rw [← hL] at c2 c7 c15 c16 hl hrw
   generalize L.getD (L.length - 2) 0 = x2 at c2 hne
   generalize L.getD (L.length - 7) 0 = x7 at c7 hne
   generalize L.getD (L.length - 15) 0 = x15 at c15 hne
   generalize L.getD (L.length - 16) 0 = x16 at c16 hne
   obtain ⟨old,hold⟩:=pad64_some (l:=L) (by omega) (i:=16 + n) (by omega)
   have co:=row_cell hrw hold
   have cf:=row_free hrw (16 + n)
   have cl:=row_lt hrw
   have hn1:(n:Int) ≤ 47:=by omega
   have hn2:n ≤ 47:=by omega
   have hn3:16 + (n:Int) < 64:=by omega
   have HNE:=Lib.hid hne
   have HEX:=Lib.hid hex
   have HL:=Lib.hid hl
   have HRW2:=Lib.hid hrw
   have HR2:=Lib.hid hr2
   have HC2:=Lib.hid hch
   clear hg hne hex hold hl hrw hr2 hch hL
   have n2:0 ≤ 16 + (n:Int) - 2:=by omega
   have m2:2 ≤ 16 + (n:Int):=by omega
   have p2:16 + (n:Int) - 2 < 64:=by omega
   have q2:(16 + (n:Int) - 2).toNat = 16 + n - 2:=by omega
   have w2:IntKind.i64.wrap (16 + (n:Int) - 2) = 16 + n - 2:=IntWalk.i64_in _ (by omega)
   have n7:0 ≤ 16 + (n:Int) - 7:=by omega
   have m7:7 ≤ 16 + (n:Int):=by omega
   have p7:16 + (n:Int) - 7 < 64:=by omega
   have q7:(16 + (n:Int) - 7).toNat = 16 + n - 7:=by omega
   have w7:IntKind.i64.wrap (16 + (n:Int) - 7) = 16 + n - 7:=IntWalk.i64_in _ (by omega)
   have n15:0 ≤ 16 + (n:Int) - 15:=by omega
   have m15:15 ≤ 16 + (n:Int):=by omega
   have p15:16 + (n:Int) - 15 < 64:=by omega
   have q15:(16 + (n:Int) - 15).toNat = 16 + n - 15:=by omega
   have w15:IntKind.i64.wrap (16 + (n:Int) - 15) = 16 + n - 15:=IntWalk.i64_in _ (by omega)
   have n16:0 ≤ 16 + (n:Int) - 16:=by omega
   have m16:16 ≤ 16 + (n:Int):=by omega
   have p16:16 + (n:Int) - 16 < 64:=by omega
   have q16:(16 + (n:Int) - 16).toNat = n:=by omega
   have w16:IntKind.i64.wrap (16 + (n:Int) - 16) = 16 + n - 16:=IntWalk.i64_in _ (by omega)
   have n0:0 ≤ 16 + (n:Int):=by omega
   have q0:(16 + (n:Int)).toNat = 16 + n:=by omega
   go_wp2_with fail
   refine (turned7 x15 _).mono ?_; rintro e v1 ⟨rfl,rfl⟩
   go_wp2_with fail
   refine (turned18 x15 _).mono ?_; rintro e v2 ⟨rfl,rfl⟩
   go_wp2_with fail
   refine (turned17 x2 _).mono ?_; rintro e v3 ⟨rfl,rfl⟩
   go_wp2_with fail
   refine (turned19 x2 _).mono ?_; rintro e v4 ⟨rfl,rfl⟩
   go_wp2
   obtain ⟨wq,hwq⟩:∃ wq,wq = wr.drew.drew.drew.drew:=⟨_,rfl⟩
   rw [← hwq]
   have e7:wq.cell? ⟨w.heap.size + 1,16 + n - 7,none⟩ = some (wv x7):=by subst hwq; exact c7
   have e16:wq.cell? ⟨w.heap.size + 1,n,none⟩ = some (wv x16):=by subst hwq; exact c16
   have eo:wq.cell? ⟨w.heap.size + 1,16 + n,none⟩ = some old:=by subst hwq; exact co
   have ef:wq.frozen? ⟨w.heap.size + 1,16 + n,none⟩ = false:=by subst hwq; exact cf
   have el:w.heap.size + 1 < wq.heap.size:=by subst hwq; exact cl
   have HWQ:=Lib.hid hwq
   clear hwq c2 c7 c15 c16 co cf cl
   go_still_tail 14,(by kernel_rfl)
   show wpList _ _ _ _ _ wq.drew
   go_wp2
   go_roundg (48 - (n + 1))
   case measure => omega
   clear n2 m2 p2 q2 w2 n7 m7 p7 q7 w7 n15 m15 p15 q15 w15 n16 m16 p16 q16 w16 q0
   have hq:Ch (fun _ => False) w wq:=by rw [HWQ.out]; exact HC2.out.drew.drew.drew.drew
   have hr:wq.heap[w.heap.size + 1]? = some (.cells (wrow (pad64 L)) 301 (0,0)):=by rw [HWQ.out]; exact HRW2.out
   have hr2:wq.heap[w.heap.size]? = some (.cells Z 301 (0,0)):=by rw [HWQ.out]; exact HR2.out
   refine ⟨n + 1,by omega,rfl,by go_num,?_,row_drew (row_set hr2 (by simp only [ne_eq]; omega) _),(hq.setCell (p:=⟨w.heap.size + 1,16 + n,none⟩) (.inr (by simp only; omega)) _).drew⟩
   refine row_drew ?_
   rw [sig1w,sig0w,sum4]
   have:=row_set_same hr (16 + n) (wv (Sha.next L))
   rw [HNE.out, ← HL.out] at this
   rw [HEX.out,HNE.out, ← pad64_set (by rw [HL.out]; omega), ← HL.out]
   exact this
 obtain rfl:n = 48:=by omega
 have hnz:¬ (16:Int) + ((48:Nat):Int) < 64:=by omega
 have hsc:Sha.ext (Sha.w16 bs 16) 48 = Sha.sched bs:=rfl
 rw [hsc,pad64_full (Sha.sched_length bs)] at hrw
 obtain ⟨S,hS⟩:∃ S,S = wrow (Sha.sched bs):=⟨_,rfl⟩
 have hSs:S.size = 64:=by rw [hS,wrow_size,Sha.sched_length]
 have hS1:∀ v ∈ S.toList,v.oneCell' = true:=by rw [hS]; exact wrow_one _
 rw [← hS] at hrw
 have HS:=(hIq hSs (aIq hS1 hS))
 have HB:=(hIq hrw (aIq hr2 hch))
 clear hrw hr2 hch hS hSs hS1 hsc hnl
 go_wp2_with (first
  | fail
  | ((with_reducible show zOq (.load 301 _)); refine wpList_load_part rfl 301 _ rfl (w.heap.size + 1) 0 rfl HB.out.1 Tryz.underlying301 rfl size64 (by rw [HS.out.1]; omega) S (by simp [← HS.out.1]) ?_)
  | ((with_reducible show zOq (.store 301 _ _)); refine wpList_store_part rfl 301 _ _ rfl w.heap.size 0 S rfl rfl HB.out.2.1 (by rw [size64,HS.out.1]) (by rw [HS.out.1,Z0.out.2.2]; omega) HS.out.2.1 S (by rw [splice_all _ _ (by rw [Array.length_toList,Array.length_toList,HS.out.1,Z0.out.2.2])]) ?_))
 exact bodyPost_ret_cell1 (p:=2) rfl rfl (row_setRow_same HB.out.2.1 _) Tryz.underlying301 rfl (by rw [size64,HS.out.1]) rfl ⟨by rw [HS.out.2.2],HB.out.2.2.setRow (.inr (Nat.le_refl _)) _⟩
end Go.Proofs.YtmeglndnkdgkoaaGreat.ShaW

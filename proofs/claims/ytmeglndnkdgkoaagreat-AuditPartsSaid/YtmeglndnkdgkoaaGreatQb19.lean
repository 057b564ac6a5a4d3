/- Proved contracts and plain laws of the layers below, in one text. -/
import Derived.Test.YtmeglndnkdgkoaaGreatQb18
set_option maxHeartbeats 3200000
set_option maxRecDepth 100000
set_option linter.unusedVariables false
namespace Go.Proofs.YtmeglndnkdgkoaaGreat.Store
open Go Go.RowKit Go.Proofs.YtmeglndnkdgkoaaGreat Go.Proofs.YtmeglndnkdgkoaaGreat.ShaW Go.Proofs.YtmeglndnkdgkoaaGreat.Path
section
variable {w w' : World} {b : Nat} {F : Nat → Prop} {ρ : Rs}
theorem RKind_ok (h:RAt w b F ρ) (n:Int):Calls Tryz.prog 88 #[.pointer (some ⟨b,0,none⟩),.int .i64 n] w fun e w' => e = .returned (.int .u8 ((ρ.sp n).kind:Nat)) ∧ Adds w w':=by
 have hg:=Rat_ok h n
 obtain ⟨hok,ho,hs⟩:=h.1.ok n
 obtain ⟨N,hN⟩:∃ N,N = (ρ.sp n).cells:=⟨_,rfl⟩
 have k0:=Sp.at_kind (x:=ρ.sp n)
 rw [← hN] at hg k0
 have hfd:=fun w => run_field_one (P:=Tryz.prog) (w:=w) Tryz.underlying198 (i:=0) rfl (Tryz.isAgg121 w) k0
 have HG:=Lib.hid hg
 clear hg hN hok ho hs h
 go_enter Tryz.func88,Tryz.ntmps88
 go_wp2_with fail
 refine HG.out.mono ?_; rintro e w1 ⟨rfl,a1⟩
 have A1:=Lib.hid a1
 clear a1
 go_wp2
 go_ret
 exact ⟨rfl,A1.out⟩
theorem RHeld_ok (h:RAt w b F ρ) (n:Int):Calls Tryz.prog 151 #[.pointer (some ⟨b,0,none⟩),.int .i64 n] w fun e w' => e = .returned (.int .i64 (ρ.sp n).own) ∧ Adds w w':=by
 have hg:=Rat_ok h n
 obtain ⟨hok,ho,hs⟩:=h.1.ok n
 obtain ⟨N,hN⟩:∃ N,N = (ρ.sp n).cells:=⟨_,rfl⟩
 have k0:=Sp.at_own hok
 rw [← hN] at hg k0
 have hfd:=fun w => run_field_one (P:=Tryz.prog) (w:=w) Tryz.underlying198 (i:=5) rfl (Tryz.isAgg3 w) k0
 have HG:=Lib.hid hg
 clear hg hN hok ho hs h
 go_enter Tryz.func151,Tryz.ntmps151
 go_wp2_with fail
 refine HG.out.mono ?_; rintro e w1 ⟨rfl,a1⟩
 have A1:=Lib.hid a1
 clear a1
 go_wp2
 go_ret
 exact ⟨rfl,A1.out⟩
def Rs.depth (ρ:Rs) (n:Int):Int:=if (ρ.sp n).kind = 2 then (ρ.sp n).d else -1
theorem RDepth_ok (h:RAt w b F ρ) (n:Int):Calls Tryz.prog 148 #[.pointer (some ⟨b,0,none⟩),.int .i64 n] w fun e w' => e = .returned (.int .i64 (ρ.depth n)) ∧ Adds w w':=by
 have hg:=fun w1 (a:Adds w w1) => Rat_ok (h.adds a) n
 obtain ⟨N,hN⟩:∃ N,N = (ρ.sp n).cells:=⟨_,rfl⟩
 have k0:=Sp.at_kind (x:=ρ.sp n)
 have k1:=Sp.at_d (x:=ρ.sp n)
 rw [← hN] at k0 k1
 rw [← hN] at hg
 unfold Rs.depth
 obtain ⟨kd,hkd⟩:∃ kd,kd = (ρ.sp n).kind:=⟨_,rfl⟩
 obtain ⟨d,hd⟩:∃ d,d = (ρ.sp n).d:=⟨_,rfl⟩
 rw [← hkd] at k0 ⊢
 rw [← hd] at k1 ⊢
 have hf0:=fun w => run_field_one (P:=Tryz.prog) (w:=w) Tryz.underlying198 (i:=0) rfl (Tryz.isAgg121 w) k0
 have hf1:=fun w => run_field_one (P:=Tryz.prog) (w:=w) Tryz.underlying198 (i:=1) rfl (Tryz.isAgg3 w) k1
 have HG:=Lib.hid hg
 clear hg hN h hkd hd
 by_cases h2:kd = 2
 · subst h2
   go_enter Tryz.func148,Tryz.ntmps148
   go_wp2_with fail
   refine (HG.out _ (Ch.refl _ _)).mono ?_; rintro e w1 ⟨rfl,a1⟩
   have A1:=Lib.hid a1
   clear a1
   go_wp2_with fail
   refine (HG.out _ A1.out).mono ?_; rintro e w2 ⟨rfl,a2⟩
   have A2:=Lib.hid (A1.out.trans a2 (fun _ => fEq))
   clear a2
   go_wp2
   go_ret
   exact ⟨rfl,A2.out⟩
 have h2':¬ ((kd:Nat):Int) = 2:=by omega
 rw [if_neg h2]
 go_enter Tryz.func148,Tryz.ntmps148
 go_wp2_with fail
 refine (HG.out _ (Ch.refl _ _)).mono ?_; rintro e w1 ⟨rfl,a1⟩
 have A1:=Lib.hid a1
 clear a1
 go_wp2
 go_ret
 exact ⟨rfl,A1.out⟩
theorem RSides_ok (h:RAt w b F ρ) (n:Int):Calls Tryz.prog 129 #[.pointer (some ⟨b,0,none⟩),.int .i64 n] w fun e w' => e = .returned (.tuple #[.int .i64 (ρ.sp n).left,.int .i64 (ρ.sp n).right]) ∧ Adds w w':=by
 have hg:=fun w1 (a:Adds w w1) => Rat_ok (h.adds a) n
 obtain ⟨hok,ho,hs⟩:=h.1.ok n
 obtain ⟨N,hN⟩:∃ N,N = (ρ.sp n).cells:=⟨_,rfl⟩
 have k0:=Sp.at_left hok
 have k1:=Sp.at_right hok
 rw [← hN] at k0 k1
 rw [← hN] at hg
 have hf0:=fun w => run_field_one (P:=Tryz.prog) (w:=w) Tryz.underlying198 (i:=3) rfl (Tryz.isAgg3 w) k0
 have hf1:=fun w => run_field_one (P:=Tryz.prog) (w:=w) Tryz.underlying198 (i:=4) rfl (Tryz.isAgg3 w) k1
 have HG:=Lib.hid hg
 clear hg hN hok ho hs h
 go_enter Tryz.func129,Tryz.ntmps129
 go_wp2_with fail
 refine (HG.out _ (Ch.refl _ _)).mono ?_; rintro e w1 ⟨rfl,a1⟩
 have A1:=Lib.hid a1
 clear a1
 go_wp2_with fail
 refine (HG.out _ A1.out).mono ?_; rintro e w2 ⟨rfl,a2⟩
 have A2:=Lib.hid (A1.out.trans a2 (fun _ => fEq))
 clear a2
 go_wp2
 go_ret2
 exact ⟨rfl,A2.out⟩
theorem RCount_ok (h:RAt w b F ρ) (n:Int):Calls Tryz.prog 119 #[.pointer (some ⟨b,0,none⟩),.int .i64 n] w fun e w' => e = .returned (.int .i64 ((ρ.sp n).own + (ρ.sp n).sides)) ∧ Adds w w':=by
 have hg:=fun w1 (a:Adds w w1) => Rat_ok (h.adds a) n
 obtain ⟨hok,ho,hs⟩:=h.1.ok n
 obtain ⟨N,hN⟩:∃ N,N = (ρ.sp n).cells:=⟨_,rfl⟩
 have k0:=Sp.at_own hok
 have k1:=Sp.at_sides hok
 rw [← hN] at k0 k1
 rw [← hN] at hg
 obtain ⟨x,hx⟩:∃ x,x = (ρ.sp n).own:=⟨_,rfl⟩
 obtain ⟨y,hy⟩:∃ y,y = (ρ.sp n).sides:=⟨_,rfl⟩
 rw [← hx] at k0 ho ⊢
 rw [← hy] at k1 hs ⊢
 have hf0:=fun w => run_field_one (P:=Tryz.prog) (w:=w) Tryz.underlying198 (i:=5) rfl (Tryz.isAgg3 w) k0
 have hf1:=fun w => run_field_one (P:=Tryz.prog) (w:=w) Tryz.underlying198 (i:=6) rfl (Tryz.isAgg3 w) k1
 have hw:IntKind.i64.wrap (x + y) = x + y:=IntWalk.i64_in _ (by omega)
 have hw2:wrap64 (x + y) = x + y:=by unfold wrap64; omega
 have HG:=Lib.hid hg
 clear hg hN hok ho hs h hx hy
 go_enter Tryz.func119,Tryz.ntmps119
 go_wp2_with fail
 refine (HG.out _ (Ch.refl _ _)).mono ?_; rintro e w1 ⟨rfl,a1⟩
 have A1:=Lib.hid a1
 clear a1
 go_wp2_with fail
 refine (HG.out _ A1.out).mono ?_; rintro e w2 ⟨rfl,a2⟩
 have A2:=Lib.hid (A1.out.trans a2 (fun _ => fEq))
 clear a2
 go_wp2
 go_ret
 exact ⟨by first | rfl | (simp [hw2]; done),A2.out⟩
theorem RRoom_ok (h:RAt w b F ρ):Calls Tryz.prog 74 #[.pointer (some ⟨b,0,none⟩)] w fun e w' => e = .returned (.int .i64 (ρ.space:Nat)) ∧ w = w':=by
 have HN:=Lib.hid (RNone_no h)
 obtain ⟨ao,cap,vf,hb⟩:=h.head
 have c1:=row_cell hb (i:=1) rfl
 clear hb h
 go_enter Tryz.func74,Tryz.ntmps74
 go_wp2_with fail
 refine HN.out.mono ?_; rintro e w1 ⟨rfl,rfl⟩
 go_wp2
 go_ret
 exact ⟨rfl,rfl⟩
def Rs.rootErr (ρ:Rs) (n:Int):Int:=if n = 0 then 0 else if ρ.has n = false then 7 else if 0 < ρ.depth n then 2 else 0
theorem RRoot_ok (h:RAt w b F ρ) (n:Int):Calls Tryz.prog 104 #[.pointer (some ⟨b,0,none⟩),.int .i64 n] w fun e w' => e = .returned (.int .i64 (ρ.rootErr n)) ∧ Adds w w':=by
 have HN:=Lib.hid (RNone_no h)
 have hh:=RHas_ok h n
 have hd:=RDepth_ok h n
 unfold Rs.rootErr
 obtain ⟨d,hdd⟩:∃ d,d = ρ.depth n:=⟨_,rfl⟩
 rw [← hdd] at hd ⊢
 by_cases h0:n = 0
 · subst h0
   clear hh hd hdd h
   go_enter Tryz.func104,Tryz.ntmps104
   go_wp2_with fail
   refine HN.out.mono ?_; rintro e w1 ⟨rfl,rfl⟩
   go_wp2
   go_ret
   exact ⟨rfl,Ch.refl _ _⟩
 rw [if_neg h0]
 cases hb:ρ.has n with
 | false =>
  rw [hb] at hh
  have HH:=Lib.hid hh
  clear hh hd hdd h hb
  go_enter Tryz.func104,Tryz.ntmps104
  go_wp2_with fail
  refine HN.out.mono ?_; rintro e w1 ⟨rfl,rfl⟩
  go_wp2_with fail
  refine HH.out.mono ?_; rintro e w1 ⟨rfl,rfl⟩
  go_wp2
  go_ret
  exact ⟨rfl,Ch.refl _ _⟩
 | true =>
  rw [hb] at hh
  have HH:=Lib.hid hh
  have HD:=Lib.hid hd
  clear hh hd hdd h hb
  rw [if_neg (by simp)]
  by_cases hp:0 < d
  · have dp:decide ((0:Int) < d) = true:=decide_eq_true hp
    rw [if_pos hp]
    go_enter Tryz.func104,Tryz.ntmps104
    go_wp2_with fail
    refine HN.out.mono ?_; rintro e w1 ⟨rfl,rfl⟩
    go_wp2_with fail
    refine HH.out.mono ?_; rintro e w1 ⟨rfl,rfl⟩
    go_wp2_with fail
    refine HD.out.mono ?_; rintro e w1 ⟨rfl,a1⟩
    have A1:=Lib.hid a1
    clear a1
    go_wp2
    go_ret
    exact ⟨rfl,A1.out⟩
  have dp:decide ((0:Int) < d) = false:=decide_eq_false hp
  rw [if_neg hp]
  go_enter Tryz.func104,Tryz.ntmps104
  go_wp2_with fail
  refine HN.out.mono ?_; rintro e w1 ⟨rfl,rfl⟩
  go_wp2_with fail
  refine HH.out.mono ?_; rintro e w1 ⟨rfl,rfl⟩
  go_wp2_with fail
  refine HD.out.mono ?_; rintro e w1 ⟨rfl,a1⟩
  have A1:=Lib.hid a1
  clear a1
  go_wp2
  go_ret
  exact ⟨rfl,A1.out⟩
end
section
variable {w w' : World} {b : Nat} {F : Nat → Prop} {ρ : Rs}
def Rs.ownB (ρ:Rs) (n:Int):Bool:=decide (n = 0) || (ρ.has n && decide (0 < (ρ.sp n).own))
theorem Rown_ok (h:RAt w b F ρ) (n:Int):Calls Tryz.prog 141 #[.pointer (some ⟨b,0,none⟩),.int .i64 n] w fun e w' => e = .returned (.bool (ρ.ownB n)) ∧ Adds w w':=by
 have hh:=RHas_ok h n
 have hg:=Rat_ok h n
 obtain ⟨hok,ho,hs⟩:=h.1.ok n
 obtain ⟨N,hN⟩:∃ N,N = (ρ.sp n).cells:=⟨_,rfl⟩
 have k0:=Sp.at_own hok
 rw [← hN] at hg k0
 have hfd:=fun w => run_field_one (P:=Tryz.prog) (w:=w) Tryz.underlying198 (i:=5) rfl (Tryz.isAgg3 w) k0
 unfold Rs.ownB
 obtain ⟨x,hx⟩:∃ x,x = (ρ.sp n).own:=⟨_,rfl⟩
 rw [← hx] at hfd ⊢
 have HG:=Lib.hid hg
 by_cases h0:n = 0
 · subst h0
   clear hh hg hok ho hs hN k0 hfd hx h
   go_enter Tryz.func141,Tryz.ntmps141
   go_wp2
   go_ret
   exact ⟨rfl,Ch.refl _ _⟩
 rw [decide_eq_false h0,Bool.false_or]
 have h0b:(n == 0) = false:=by simpa using h0
 cases hb:ρ.has n with
 | false =>
  rw [hb] at hh
  have HH:=Lib.hid hh
  clear hh hg hok ho hs hN k0 hfd hx h hb
  go_enter Tryz.func141,Tryz.ntmps141
  go_wp2_with fail
  refine HH.out.mono ?_; rintro e w1 ⟨rfl,rfl⟩
  go_wp2
  go_ret
  exact ⟨rfl,Ch.refl _ _⟩
 | true =>
  rw [hb] at hh
  have HH:=Lib.hid hh
  rw [Bool.true_and]
  obtain ⟨d,hd⟩:∃ d,d = decide (0 < x):=⟨_,rfl⟩
  rw [← hd]
  clear hh hg hok ho hs hN k0 hx h hb
  cases d
  · have hd':decide ((0:Int) < x) = false:=hd.symm
    clear hd
    go_enter Tryz.func141,Tryz.ntmps141
    go_wp2_with fail
    refine HH.out.mono ?_; rintro e w1 ⟨rfl,rfl⟩
    go_wp2_with fail
    refine HG.out.mono ?_; rintro e w1 ⟨rfl,a1⟩
    have A1:=Lib.hid a1
    clear a1
    go_wp2
    go_ret
    exact ⟨rfl,A1.out⟩
  have hd':decide ((0:Int) < x) = true:=hd.symm
  clear hd
  go_enter Tryz.func141,Tryz.ntmps141
  go_wp2_with fail
  refine HH.out.mono ?_; rintro e w1 ⟨rfl,rfl⟩
  go_wp2_with fail
  refine HG.out.mono ?_; rintro e w1 ⟨rfl,a1⟩
  have A1:=Lib.hid a1
  clear a1
  go_wp2
  go_ret
  exact ⟨rfl,A1.out⟩
def Rs.fullB (ρ:Rs):Bool:=decide (ρ.free.length = 0) && decide (ρ.space ≤ ρ.spots.length)
theorem Rfull_ok (h:RAt w b F ρ):Calls Tryz.prog 134 #[.pointer (some ⟨b,0,none⟩)] w fun e w' => e = .returned (.bool ρ.fullB) ∧ Adds w w':=by
 obtain ⟨h0,vs,vf,h1,h2,h3,_⟩:=h
 obtain ⟨ao,cap,rfl⟩:=owns_form h2
 obtain ⟨af,capf,rfl⟩:=owns_form h3
 have c1:=row_cell h1 (i:=1) rfl
 have c2:=row_cell h1 (i:=2) rfl
 have c3:=row_cell h1 (i:=3) rfl
 unfold Rs.fullB
 obtain ⟨S,hS⟩:∃ S,S = ρ.space:=⟨_,rfl⟩
 obtain ⟨L,hL⟩:∃ L,L = ρ.spots.length:=⟨_,rfl⟩
 obtain ⟨Fl,hF⟩:∃ L,L = ρ.free.length:=⟨_,rfl⟩
 rw [← hS] at c1 ⊢
 rw [← hL] at c2 ⊢
 rw [← hF] at c3 ⊢
 clear h0 h1 h2 h3 hS hL hF
 by_cases hf:Fl = 0
 · subst hf
   by_cases hl:S ≤ L
   · have d1:decide ((S:Int) ≤ (L:Int)) = true:=decide_eq_true (by omega)
     rw [decide_eq_true hl]
     have HLL:=Lib.hid hl
     clear hl
     go_enter Tryz.func134,Tryz.ntmps134
     go_wp2
     go_quiet (fail)
     go_wp2
     go_ret
     exact ⟨by simp [HLL.out],(Ch.refl _ _).drewN _⟩
   have d1:decide ((S:Int) ≤ (L:Int)) = false:=decide_eq_false (by omega)
   rw [decide_eq_false hl]
   have HLL:=Lib.hid hl
   clear hl
   go_enter Tryz.func134,Tryz.ntmps134
   go_wp2
   go_quiet (fail)
   go_wp2
   go_ret
   exact ⟨by simp [HLL.out],(Ch.refl _ _).drewN _⟩
 have d1:¬ ((Fl:Nat):Int) = 0:=by omega
 rw [decide_eq_false hf]
 have d2:((Fl:Int) == 0) = false:=by simpa using d1
 go_enter Tryz.func134,Tryz.ntmps134
 go_wp2
 go_quiet (fail)
 go_wp2
 go_ret
 exact ⟨rfl,(Ch.refl _ _).drewN _⟩
end
section
variable {w w' : World} {b : Nat} {F : Nat → Prop} {ρ : Rs}
theorem RAt.setNum (h:RAt w b F ρ) {m:Nat} {x y:Sp} (hx:ρ.spots[m]? = some x) {g cap:Nat} {vf:Value} (hb:w.heap[b]? = some (.cells #[.bool true,.int .i64 (ρ.space:Nat),.slice (some ⟨g,0,none⟩) ρ.spots.length cap,vf] 126 (0,0)))
 (j:Nat) (v:Value) (hj:j < 39) (hy:x.cells.setIfInBounds j v = y.cells) (hok:y.Ok ∧ (0 ≤ y.own ∧ y.own ≤ 2147483648) ∧ (0 ≤ y.sides ∧ y.sides ≤ 2147483648)) (ha:y.addr = x.addr ∧ y.value = x.value) :
 RAt (w.setCell ⟨g,m * 39 + j,none⟩ v) b F (ρ.setAt m y) ∧ Ch F w (w.setCell ⟨g,m * 39 + j,none⟩ v) ∧ (w.setCell ⟨g,m * 39 + j,none⟩ v).heap[b]? = some (.cells #[.bool true,.int .i64 (ρ.space:Nat),.slice (some ⟨g,0,none⟩) ρ.spots.length cap,vf] 126 (0,0)):=by
 obtain ⟨h0,vs,vf',h1,h2,h3,h4,h5,h6,h7,h8⟩:=h
 rw [hb] at h1
 simp only [Option.some.injEq,Obj.cells.injEq,and_true,true_and,Array.mk.injEq,List.cons.injEq,and_self] at h1
 obtain ⟨rfl,rfl⟩:=h1
 have hm:=(List.getElem?_eq_some_iff.1 hx).1
 obtain ⟨g',cap',cur,e,hg,hc1,hc2,hc3,hc4⟩:=owns_block h2 (by omega)
 cases e
 obtain ⟨fg,gb⟩:=h6 g rfl
 have hsz:∀ a ∈ ρ.spots.map Sp.cells,a.size = 39:=fun a ha => by
  obtain ⟨z,hz,rfl⟩:=List.mem_map.1 ha
  exact Sp.cells_size (h0.nums z hz).1
 have hxm:(ρ.spots.map Sp.cells)[m]? = some x.cells:=by rw [List.getElem?_map,hx]; rfl
 have hb2:=row_set (p:=⟨g,m * 39 + j,none⟩) hb (Ne.symm gb) v
 have hch:Ch (fun k => k = g) w (w.setCell ⟨g,m * 39 + j,none⟩ v):=(Ch.refl (fun k => k = g) w).setCell (p:=⟨g,m * 39 + j,none⟩) (.inl rfl) v
 refine ⟨⟨?_,_,_,hb2,?_,?_,fun z hz => ?_,h5,fun k hk => h6 k hk,h7,fun k hk => by simpa using h8 k hk⟩,(Ch.refl _ w).setCell (p:=⟨g,m * 39 + j,none⟩) (.inl fg) v,hb2⟩
 · refine ⟨h0.space,by simpa [Rs.setAt] using h0.len,fun n hn => by simpa [Rs.setAt] using h0.free n hn,by simpa [Rs.setAt] using h0.flen,fun z hz => ?_⟩
   rcases List.mem_or_eq_of_mem_set hz with hz | rfl
   · exact h0.nums z hz
   exact hok
 · have:=row_set_same hg (m * 39 + j) v
   show World.ownsRow _ 0 _ 39 _ (ρ.spots.set m y).length (flatA ((ρ.spots.set m y).map Sp.cells))
   rw [List.length_set]
   refine owns_mk this hc1 hc2 (by simpa using hc3) ?_
   rw [Array.toList_setIfInBounds,List.take_set,hc4,flatA_set hsz hxm hj,hy,List.map_set]
 · exact hch.owns h3 (fun k hk e => (h7 k hk).2.2 (by subst e; rfl))
 have key:∀ z:Sp,(Bytes w z.addr z.value ∧ ∀ k,z.addr.ownBlock = some k → F k ∧ k ≠ b ∧ (Value.slice (some ⟨g,0,none⟩) ρ.spots.length cap).ownBlock ≠ some k ∧ vf.ownBlock ≠ some k) → Bytes (w.setCell ⟨g,m * 39 + j,none⟩ v) z.addr z.value:=fun z hz =>
  hz.1.keep hch (fun k hk e => (hz.2 k hk).2.2.1 (by subst e; rfl))
 rcases List.mem_or_eq_of_mem_set hz with hz | rfl
 · exact ⟨key z (h4 z hz),(h4 z hz).2⟩
 have hz:=h4 x (List.mem_of_getElem? hx)
 rw [← ha.1, ← ha.2] at hz
 exact ⟨key _ hz,hz.2⟩
def Sp.over (x:Sp):Sp := { x with own:=x.own - 1,sides:=x.sides + 1 }
theorem Rover_zero (h:RAt w b F ρ):Calls Tryz.prog 143 #[.pointer (some ⟨b,0,none⟩),.int .i64 0] w fun e w' => e = .returned (.tuple #[]) ∧ w = w':=by
 go_enter Tryz.func143,Tryz.ntmps143
 go_wp2
 go_end0
 exact ⟨rfl,rfl⟩
theorem Rover_ok (h:RAt w b F ρ) {m:Nat} {x:Sp} (hx:ρ.spots[m]? = some x) (h1:1 ≤ x.own) (h2:x.sides < 2147483648):Calls Tryz.prog 143 #[.pointer (some ⟨b,0,none⟩),.int .i64 ((m:Int) + 1)] w fun e w' => e = .returned (.tuple #[]) ∧ RMoved w w' b F (ρ.setAt m x.over):=by
 obtain ⟨g,cap,cur,vf,hb,hg,q1,q2,q3,q4,q5,hok,hat,hex,fg,gb,hfit⟩:=spot_mem h hx
 obtain ⟨_,hn1,hn2⟩:=h.1.nums x (List.mem_of_getElem? hx)
 have hl:=h.1.len
 have hs:=h.1.space
 obtain ⟨r1,ch1,hb1⟩:=h.setNum hx hb 37 (.int .i64 (x.own - 1)) (by omega) (Sp.set_own hok _) ⟨⟨hok.key,hok.addr,hok.val⟩,⟨by show 0 ≤ x.own - 1; omega,by show x.own - 1 ≤ _; omega⟩,hn2⟩ ⟨rfl,rfl⟩
 have hx1:(ρ.setAt m { x with own:=x.own - 1 }).spots[m]? = some { x with own:=x.own - 1 }:=List.getElem?_set_self q5
 have hb1':(w.setCell ⟨g,m * 39 + 37,none⟩ (.int .i64 (x.own - 1))).heap[b]? = some (.cells #[.bool true,.int .i64 ((ρ.setAt m { x with own:=x.own - 1 }).space:Nat),.slice (some ⟨g,0,none⟩) (ρ.setAt m { x with own:=x.own - 1 }).spots.length cap,vf] 126 (0,0)):=by
  rw [show (ρ.setAt m { x with own:=x.own - 1 }).spots.length = ρ.spots.length from List.length_set ..]; exact hb1
 obtain ⟨r2,ch2,_⟩:=r1.setNum hx1 hb1' 38 (.int .i64 (x.sides + 1)) (by omega) (Sp.set_sides (x := { x with own:=x.own - 1 }) ⟨hok.key,hok.addr,hok.val⟩ _) (y:=x.over) ⟨⟨hok.key,hok.addr,hok.val⟩,⟨by show 0 ≤ x.own - 1; omega,by show x.own - 1 ≤ _; omega⟩,⟨by show 0 ≤ x.sides + 1; omega,by show x.sides + 1 ≤ _; omega⟩⟩ ⟨rfl,rfl⟩
 have hset:(ρ.setAt m { x with own:=x.own - 1 }).setAt m x.over = ρ.setAt m x.over:=by unfold Rs.setAt; simp
 rw [hset] at r2
 have R2:=(hIq r2 (Ch.trans_same ch1 ch2))
 have c2:=row_cell hb (i:=2) rfl
 have co:=row_cell hg (hat 37 _ (by omega) (Sp.at_own hok))
 have cs:=row_cell hg (hat 38 _ (by omega) (Sp.at_sides hok))
 have fo:=row_free hg (m * 39 + 37)
 have fs:=row_free hg (m * 39 + 38)
 have lg:=row_lt hg
 have hbg:b ≠ g:=Ne.symm gb
 obtain ⟨ow,how⟩:∃ o,o = x.own:=⟨_,rfl⟩
 obtain ⟨sd,hsd⟩:∃ o,o = x.sides:=⟨_,rfl⟩
 rw [← how] at co h1 hn1
 rw [← hsd] at cs h2 hn2
 have hw1:IntKind.i64.wrap (ow - 1) = ow - 1:=IntWalk.i64_in _ (by omega)
 have hw2:IntKind.i64.wrap (sd + 1) = sd + 1:=IntWalk.i64_in _ (by omega)
 rw [← how, ← hsd] at R2
 obtain ⟨L,hL⟩:∃ L,L = ρ.spots.length:=⟨_,rfl⟩
 rw [← hL] at c2 q5 hl
 have hml:m ≤ 65535:=by omega
 clear hb hg q1 q2 q3 q4 hok hat hex fg gb hfit h r1 ch1 hb1 hx1 hb1' r2 ch2 hset how hsd hx hL
 go_enter Tryz.func143,Tryz.ntmps143
 go_wp2
 go_end0
 exact ⟨rfl,F,R2.out.1,R2.out.2,fun k hk => .inl hk⟩
theorem Rs.has_some {ρ:Rs} {n:Int} (h:ρ.has n = true):∃ (m:Nat) (x:Sp),n = (m:Int) + 1 ∧ ρ.spots[m]? = some x ∧ x.kind ≠ 0 ∧ ρ.sp n = x:=by
 unfold Rs.has at h
 rcases ρ.parts n with hout | ⟨m,x,rfl,hm,hx⟩
 · rw [ρ.sp_out hout] at h; simp [Sp.zero] at h
 refine ⟨m,x,rfl,hx,?_⟩
 rw [ρ.sp_at hx] at h ⊢
 by_cases e:x.kind = 0
 · rw [if_pos e] at h; simp [Sp.zero] at h
 exact ⟨e,if_neg e⟩
def Rs.bumpOwn (ρ:Rs) (n d:Int):Rs:=match ρ.spots[(n - 1).toNat]? with
 | some x => ρ.setAt (n - 1).toNat { x with own:=x.own + d }
 | none => ρ
theorem Rs.bumpOwn_at {ρ:Rs} {m:Nat} {x:Sp} (hx:ρ.spots[m]? = some x) (d:Int):ρ.bumpOwn ((m:Int) + 1) d = ρ.setAt m { x with own:=x.own + d }:=by
 unfold Rs.bumpOwn
 rw [show ((m:Int) + 1 - 1).toNat = m by omega,hx]
def Rs.holdErr (ρ:Rs) (n:Int):Int:=if ρ.has n = false then 7 else if 1073741824 ≤ (ρ.sp n).own + (ρ.sp n).sides then 4 else 0
theorem RHold_ok (h:RAt w b F ρ) (n:Int):Calls Tryz.prog 66 #[.pointer (some ⟨b,0,none⟩),.int .i64 n] w fun e w' => e = .returned (.int .i64 (ρ.holdErr n)) ∧ RMoved w w' b F (if ρ.holdErr n = 0 then ρ.bumpOwn n 1 else ρ):=by
 have HN:=Lib.hid (RNone_no h)
 have hh:=RHas_ok h n
 cases hb:ρ.has n with
 | false =>
  have he:ρ.holdErr n = 7:=by unfold Rs.holdErr; rw [if_pos hb]
  rw [hb] at hh
  rw [he,if_neg (by omega)]
  have HH:=Lib.hid hh
  have R:=Lib.hid (RMoved.same h (Ch.refl _ _))
  clear hh hb he h
  go_enter Tryz.func66,Tryz.ntmps66
  go_wp2_with fail
  refine HN.out.mono ?_; rintro e w1 ⟨rfl,rfl⟩
  go_wp2_with fail
  refine HH.out.mono ?_; rintro e w1 ⟨rfl,rfl⟩
  go_wp2
  go_ret
  exact ⟨rfl,R.out⟩
 | true =>
  rw [hb] at hh
  have HH:=Lib.hid hh
  have hc:=RCount_ok h n
  obtain ⟨m,x,rfl,hx,hk,hsp⟩:=Rs.has_some hb
  have hnums:=h.1.nums x (List.mem_of_getElem? hx)
  have he:ρ.holdErr ((m:Int) + 1) = if 1073741824 ≤ x.own + x.sides then 4 else 0:=by unfold Rs.holdErr; rw [hb,hsp]; rfl
  rw [hsp] at hc
  obtain ⟨c,hcc⟩:∃ c,c = x.own + x.sides:=⟨_,rfl⟩
  rw [← hcc] at hc he
  have HC:=Lib.hid hc
  by_cases hbig:1073741824 ≤ c
  · have d1:decide ((1073741824:Int) ≤ c) = true:=decide_eq_true hbig
    rw [if_pos hbig] at he
    rw [he,if_neg (by omega)]
    have HR:=Lib.hid h
    clear hh hb he hc hcc h hx hk hsp hnums hbig
    go_enter Tryz.func66,Tryz.ntmps66
    go_wp2_with fail
    refine HN.out.mono ?_; rintro e w1 ⟨rfl,rfl⟩
    go_wp2_with fail
    refine HH.out.mono ?_; rintro e w1 ⟨rfl,rfl⟩
    go_wp2_with fail
    refine HC.out.mono ?_; rintro e w1 ⟨rfl,a1⟩
    have A1:=Lib.hid a1
    clear a1
    go_wp2
    go_ret
    exact ⟨rfl,RMoved.same HR.out A1.out⟩
  have d1:decide ((1073741824:Int) ≤ c) = false:=decide_eq_false hbig
  rw [if_neg hbig] at he
  rw [he,if_pos rfl,Rs.bumpOwn_at hx]
  have HR:=(hIq h (aIq hx (aIq hnums (by omega:x.own + x.sides < 1073741824))))
  have hl:=h.1.len
  have hs:=h.1.space
  clear hh hb he hc hcc h hk hsp hnums hbig
  go_enter Tryz.func66,Tryz.ntmps66
  go_wp2_with fail
  refine HN.out.mono ?_; rintro e w1 ⟨rfl,rfl⟩
  go_wp2_with fail
  refine HH.out.mono ?_; rintro e w1 ⟨rfl,rfl⟩
  go_wp2_with fail
  refine HC.out.mono ?_; rintro e w1 ⟨rfl,a1⟩
  have h1:=HR.out.1.adds a1
  obtain ⟨g,cap,cur,vf,hb,hg,q1,q2,q3,q4,q5,hok,hat,hex,fg,gb,hfit⟩:=spot_mem h1 hx
  have hn:=HR.out.2.2.1
  have hlt:=HR.out.2.2.2
  obtain ⟨r1,ch1,hb1⟩:=h1.setNum hx hb 37 (.int .i64 (x.own + 1)) (by omega) (Sp.set_own hok _) (y := { x with own:=x.own + 1 }) ⟨⟨hok.key,hok.addr,hok.val⟩,⟨by show 0 ≤ x.own + 1; omega,by show x.own + 1 ≤ _; omega⟩,hn.2.2⟩ ⟨rfl,rfl⟩
  have R:=(hIq r1 (aIq ch1 a1))
  have c2:=row_cell hb (i:=2) rfl
  have co:=row_cell hg (hat 37 _ (by omega) (Sp.at_own hok))
  have fo:=row_free hg (m * 39 + 37)
  have lg:=row_lt hg
  obtain ⟨ow,how⟩:∃ o,o = x.own:=⟨_,rfl⟩
  have hoo:IntKind.i64.wrap (ow + 1) = ow + 1:=IntWalk.i64_in _ (by omega)
  rw [← how] at co R
  have HOW:=Lib.hid how
  obtain ⟨L,hL⟩:∃ L,L = ρ.spots.length:=⟨_,rfl⟩
  rw [← hL] at c2 q5 hl
  have hml:m ≤ 65535:=by omega
  clear hb hg q1 q2 q3 q4 hok hat hex fg gb hfit h1 r1 ch1 hb1 a1 how hL hn hlt hx
  go_wp2
  go_ret
  have how':=HOW.out
  subst how'
  refine ⟨rfl,RMoved.from R.out.2.2 ⟨F,R.out.1,R.out.2.1,fun k hk => .inl hk⟩⟩
end
end Go.Proofs.YtmeglndnkdgkoaaGreat.Store

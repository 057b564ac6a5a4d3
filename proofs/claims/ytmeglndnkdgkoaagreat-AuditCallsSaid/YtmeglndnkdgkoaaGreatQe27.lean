/- Laws of the layers below. -/
import Derived.Test.YtmeglndnkdgkoaaGreatQe26
import Derived.Lib.SliceRun
set_option maxHeartbeats 3200000
set_option maxRecDepth 100000
set_option linter.unusedVariables false
namespace Go.Proofs.YtmeglndnkdgkoaaGreat.Store
open Go.RowKit Go.Proofs.YtmeglndnkdgkoaaGreat.ShaW Go.Proofs.YtmeglndnkdgkoaaGreat.Path
section
variable {w0 w w' : World} {b : Nat} {σ : SlabSt Nd} {F G : Nat → Prop}
theorem ROw.occupied (h:ROw w0 w b σ G) (GG:Good σ):Calls Tryz.prog 72 #[.pointer (some ⟨b,0,none⟩)] w fun e w' => e = .returned (.int .i64 (σ.used:Nat)) ∧ Adds w w':=by
 obtain ⟨ρ,F,h1,L,_⟩:=h
 exact (ROccupied_ok h1 L GG).mono fun e w' ⟨he,a⟩ => ⟨by rw [he,GG.used],a⟩
theorem ROw.handles (h:ROw w0 w b σ G) (GG:Good σ):Calls Tryz.prog 75 #[.pointer (some ⟨b,0,none⟩)] w fun e w' => ∃ v,e = .returned v ∧ w'.ownsRow w.heap.size 3 1 v (Store.handles σ).length (ints (Store.handles σ)) ∧ Adds w w':=by
 obtain ⟨ρ,F,h1,L,_⟩:=h
 exact RHandles_ok h1 L GG
theorem R9AtHand_ok (h:ROw w0 w b σ G) (GG:Good σ) (root:Int):Calls Tryz.prog 85 #[.pointer (some ⟨b,0,none⟩),.int .i64 root] w fun e w' => e = .returned (.int .i64 (atHand σ root)) ∧ Adds w w':=by
 have hrt:=h.root GG root
 have hh:=fun w1 (a:Adds w w1) => (h.adds a).heldR GG root
 unfold atHand
 obtain ⟨er,her⟩:∃ x,x = rootErr σ root:=⟨_,rfl⟩
 obtain ⟨hd,hhd⟩:∃ x,x = (nd σ root).held:=⟨_,rfl⟩
 rw [← her] at hrt ⊢
 rw [← hhd] at hh ⊢
 have HR:=Lib.hid hrt
 have HH:=Lib.hid hh
 clear hrt hh her hhd h
 by_cases h0:er = 0
 · subst h0
   rw [if_neg (by simp)]
   by_cases h1:root = 0
   · subst h1
     rw [if_neg (by simp)]
     go_enter Tryz.func85,Tryz.ntmps85
     go_wp2_with fail
     refine HR.out.mono ?_; rintro e w1 ⟨rfl,a1⟩
     go_wp2
     go_ret
     exact ⟨rfl,a1⟩
   by_cases h2:hd = 0
   · rw [if_pos ⟨h1,h2⟩]
     go_enter Tryz.func85,Tryz.ntmps85
     go_wp2_with fail
     refine HR.out.mono ?_; rintro e w1 ⟨rfl,a1⟩
     go_wp2_with fail
     refine (HH.out _ a1).mono ?_; rintro e w2 ⟨rfl,a2⟩
     go_wp2
     go_ret
     exact ⟨rfl,a1.trans a2 (fun _ => fEq)⟩
   rw [if_neg (fun h => h2 h.2)]
   have e1:(hd == 0) = false:=by simpa using h2
   have e2:(root != 0) = true:=by simpa using h1
   go_enter Tryz.func85,Tryz.ntmps85
   go_wp2_with fail
   refine HR.out.mono ?_; rintro e w1 ⟨rfl,a1⟩
   go_wp2_with fail
   refine (HH.out _ a1).mono ?_; rintro e w2 ⟨rfl,a2⟩
   go_wp2
   go_ret
   exact ⟨rfl,a1.trans a2 (fun _ => fEq)⟩
 rw [if_pos h0]
 go_enter Tryz.func85,Tryz.ntmps85
 go_wp2_with fail
 refine HR.out.mono ?_; rintro e w1 ⟨rfl,a1⟩
 go_wp2
 go_ret
 exact ⟨rfl,a1⟩
theorem ROw.used_le (h:ROw w0 w b σ G) (GG:Good σ):σ.used ≤ 65536 ∧ 1 ≤ σ.room ∧ σ.room ≤ 65536:=by
 obtain ⟨ρ,F,h1,L,_⟩:=h
 have a1:=h1.1.len
 have a2:=h1.1.space
 have a3:=L.len
 have a4:=L.space
 unfold SlabSt.used
 omega
theorem R9Fits_ok (h:ROw w0 w b σ G) (GG:Good σ) (j:Int):Calls Tryz.prog 93 #[.pointer (some ⟨b,0,none⟩),.int .i64 j] w fun e w' => e = .returned (.bool (fitsJ σ j)) ∧ Adds w w':=by
 obtain ⟨hu,hr1,hr2⟩:=h.used_le GG
 have hno:=h.isNo
 have hrm:=fun w1 (a:Adds w w1) => (h.adds a).room
 have hoc:=h.occupied GG
 unfold fitsJ
 obtain ⟨rm,hrm'⟩:∃ x,x = σ.room:=⟨_,rfl⟩
 obtain ⟨us,hus⟩:∃ x,x = σ.used:=⟨_,rfl⟩
 rw [← hrm'] at hrm hr1 hr2 ⊢
 rw [← hus] at hoc hu ⊢
 have HN:=Lib.hid hno
 have HR:=Lib.hid hrm
 have HO:=Lib.hid hoc
 clear hrm hoc hrm' hus h hno
 by_cases h0:0 ≤ j
 · rw [decide_eq_true h0,Bool.true_and]
   by_cases h1:j ≤ 64
   · rw [decide_eq_true h1,Bool.true_and]
     have hw:IntKind.i64.wrap (258 * j) = 258 * j:=by rw [IntKind.wrap]; simp [IntKind.signed,IntKind.bits]; omega
     have hw2:IntKind.i64.wrap ((us:Int) + 258 * j) = (us:Int) + 258 * j:=by rw [IntKind.wrap]; simp [IntKind.signed,IntKind.bits]; omega
     obtain ⟨p,hp⟩:∃ p,p = 258 * j:=⟨_,rfl⟩
     rw [← hp] at hw hw2 ⊢
     obtain ⟨q,hq⟩:∃ q,q = (us:Int) + p:=⟨_,rfl⟩
     rw [← hq] at hw2 ⊢
     go_enter Tryz.func93,Tryz.ntmps93
     go_wp2_with fail
     refine HN.out.mono ?_; rintro e w1 ⟨rfl,rfl⟩
     go_wp2_with fail
     refine HO.out.mono ?_; rintro e w1 ⟨rfl,a1⟩
     go_wp2_with fail
     refine (HR.out _ a1).mono ?_; rintro e w2 ⟨rfl,rfl⟩
     go_wp2
     go_ret
     refine ⟨?_,a1⟩
     simp [go_sem,hq,hp]
   rw [decide_eq_false h1,Bool.false_and]
   go_enter Tryz.func93,Tryz.ntmps93
   go_wp2_with fail
   refine HN.out.mono ?_; rintro e w1 ⟨rfl,rfl⟩
   go_wp2
   go_ret
   exact ⟨rfl,Ch.refl _ _⟩
 rw [decide_eq_false h0,Bool.false_and]
 go_enter Tryz.func93,Tryz.ntmps93
 go_wp2_with fail
 refine HN.out.mono ?_; rintro e w1 ⟨rfl,rfl⟩
 go_wp2
 go_ret
 exact ⟨rfl,Ch.refl _ _⟩
theorem Made_ok (h:ROw w0 w b σ G) (GG:Good σ) (d:Int) (key:List UInt8) (hk:key.length = 32) (own other:Int) :
 Calls Tryz.prog 168 #[.pointer (some ⟨b,0,none⟩),.agg (brow key),.int .i64 d,.int .i64 own,.int .i64 other] w fun e w' => e = .returned (.int .i64 (joinS σ key d own other).1) ∧ ROw w0 w' b (joinS σ key d own other).2.2 G ∧ But G w w':=by
 have hb:=RBit_ok key hk d
 unfold joinS
 obtain ⟨K,hK⟩:∃ K,K = brow key:=⟨_,rfl⟩
 have hKs:K.size = 32:=by rw [hK,brow_size,hk]
 obtain ⟨bt,hbt⟩:∃ b,b = bit key d:=⟨_,rfl⟩
 rw [← hK, ← hbt] at hb
 rw [← hK, ← hbt]
 have HB:=Lib.hid hb
 have HA:=Lib.hid h
 have HK:=Lib.hid hKs
 have hin:=fun w1 (a:Adds w w1) => (HA.out.adds a).inner GG d
 have HI:=Lib.hid hin
 clear hin hb h hK hbt hKs
 by_cases hz:bt = 1
 · rw [if_pos hz,if_pos hz]
   subst hz
   go_enter Tryz.func168,Tryz.ntmps168
   go_wp2_with (first
    | fail
    | ((with_reducible show zOq (.load 31 _)); refine wpList_load_part rfl 31 _ rfl w.heap.size 0 rfl (heap_alloc_new w (.cells K 31)) Tryz.underlying31 rfl sizeP (by rw [HK.out]; omega) K (by simp [← HK.out]) ?_))
   refine (HB.out _).mono ?_; rintro e w1 ⟨rfl,a1⟩
   have A1:=Lib.hid (((Ch.refl (fun _ => False) w).alloc (.cells K 31)).trans a1 (fun _ => fEq))
   clear a1
   go_wp2_with fail
   refine (HI.out _ A1.out other own).mono ?_; rintro e w2 ⟨rfl,o2,b2⟩
   go_wp2
   go_ret
   exact ⟨rfl,o2,(Adds.but A1.out).then b2⟩
 rw [if_neg hz,if_neg hz]
 go_enter Tryz.func168,Tryz.ntmps168
 go_wp2_with (first
  | fail
  | ((with_reducible show zOq (.load 31 _)); refine wpList_load_part rfl 31 _ rfl w.heap.size 0 rfl (heap_alloc_new w (.cells K 31)) Tryz.underlying31 rfl sizeP (by rw [HK.out]; omega) K (by simp [← HK.out]) ?_))
 refine (HB.out _).mono ?_; rintro e w1 ⟨rfl,a1⟩
 have A1:=Lib.hid (((Ch.refl (fun _ => False) w).alloc (.cells K 31)).trans a1 (fun _ => fEq))
 clear a1
 go_wp2_with fail
 refine (HI.out _ A1.out own other).mono ?_; rintro e w2 ⟨rfl,o2,b2⟩
 go_wp2
 go_ret
 exact ⟨rfl,o2,(Adds.but A1.out).then b2⟩
theorem Other9_ok (h:ROw w0 w b σ G) (GG:Good σ) (n:Int) (d:Nat) (key:List UInt8) (hk:key.length = 32) :
 Calls Tryz.prog 89 #[.pointer (some ⟨b,0,none⟩),.agg (brow key),.int .i64 (d:Int),.int .i64 n] w fun e w' => e = .returned (.int .i64 (besideS σ key n d)) ∧ Adds w w':=by
 have hb:=RBit_ok key hk (d:Int)
 obtain ⟨K,hK⟩:∃ K,K = brow key:=⟨_,rfl⟩
 have hKs:K.size = 32:=by rw [hK,brow_size,hk]
 have hsd:=(h.adds ((Ch.refl (fun _ => False) w).alloc (.cells K 31))).sides GG n
 unfold besideS
 obtain ⟨bt,hbt⟩:∃ b,b = bit key (d:Int):=⟨_,rfl⟩
 obtain ⟨lf,hlf⟩:∃ x,x = (nd σ n).left:=⟨_,rfl⟩
 obtain ⟨rg,hrg⟩:∃ x,x = (nd σ n).right:=⟨_,rfl⟩
 rw [← hlf, ← hrg] at hsd ⊢
 rw [← hK, ← hbt] at hb
 rw [← hK, ← hbt]
 have HB:=Lib.hid hb
 have HS:=Lib.hid hsd
 have HK:=Lib.hid hKs
 clear hb h hK hbt hKs hsd hlf hrg
 by_cases hz:bt = 1
 · rw [if_pos hz]
   subst hz
   go_enter Tryz.func89,Tryz.ntmps89
   go_wp2_with fail
   refine HS.out.mono ?_; rintro e w1 ⟨rfl,a1⟩
   have k1:=a1.row (heap_alloc_new w (.cells K 31)) id
   have K1:=(hIq k1 (((Ch.refl (fun _ => False) w).alloc (.cells K 31)).trans a1 (fun _ => fEq)))
   clear a1 k1
   go_wp2_with (first
    | fail
    | ((with_reducible show zOq (.load 31 _)); refine wpList_load_part rfl 31 _ rfl w.heap.size 0 rfl K1.out.1 Tryz.underlying31 rfl sizeP (by rw [HK.out]; omega) K (by simp [← HK.out]) ?_))
   refine (HB.out _).mono ?_; rintro e w2 ⟨rfl,a2⟩
   go_wp2
   go_ret
   exact ⟨rfl,K1.out.2.trans a2 (fun _ => fEq)⟩
 rw [if_neg hz]
 go_enter Tryz.func89,Tryz.ntmps89
 go_wp2_with fail
 refine HS.out.mono ?_; rintro e w1 ⟨rfl,a1⟩
 have k1:=a1.row (heap_alloc_new w (.cells K 31)) id
 have K1:=(hIq k1 (((Ch.refl (fun _ => False) w).alloc (.cells K 31)).trans a1 (fun _ => fEq)))
 clear a1 k1
 go_wp2_with (first
  | fail
  | ((with_reducible show zOq (.load 31 _)); refine wpList_load_part rfl 31 _ rfl w.heap.size 0 rfl K1.out.1 Tryz.underlying31 rfl sizeP (by rw [HK.out]; omega) K (by simp [← HK.out]) ?_))
 refine (HB.out _).mono ?_; rintro e w2 ⟨rfl,a2⟩
 go_wp2
 go_ret
 exact ⟨rfl,K1.out.2.trans a2 (fun _ => fEq)⟩
end
section
variable {w0 w : World} {b : Nat} {σ : SlabSt Nd} {G : Nat → Prop} {ao : Option Addr} {R : List Int}
theorem RWrong_ok (h:ROw w0 w b σ G) (GG:Good σ) (cap:Nat) (hR:IntsAt w ao R) (hl:R.length < 4611686018427387904) :
 Calls Tryz.prog 123 #[.pointer (some ⟨b,0,none⟩),.slice ao R.length cap] w fun e w' => e = .returned (.int .i64 (chk σ R)) ∧ Adds w w':=by
 obtain ⟨n,hn⟩:∃ n,n = R.length:=⟨_,rfl⟩
 have hno:=h.isNo
 have hrt:=fun w1 (a:Adds w w1) x => (h.adds a).root GG x
 rw [← hn] at hl ⊢
 have HRO:=Lib.hid hno
 have HRT:=Lib.hid hrt
 have HR:=Lib.hid hR
 have HN:=Lib.hid hn
 clear hno hrt hR hn h
 by_cases hbig:64 < n
 · have hc:chk σ R = 4:=by unfold chk; rw [if_pos (by rw [← HN.out]; exact hbig)]
   rw [hc]
   have d64:(64:Int) < (n:Int):=by omega
   clear hc
   go_enter Tryz.func123,Tryz.ntmps123
   go_wp2_with fail
   refine HRO.out.mono ?_; rintro e w1 ⟨rfl,rfl⟩
   go_wp2
   go_ret
   exact ⟨rfl,Ch.refl _ _⟩
 have hc:chk σ R = rerr σ R:=by unfold chk; rw [if_neg (by rw [← HN.out]; exact hbig)]
 have HC:=Lib.hid hc
 have d64:¬ (64:Int) < (n:Int):=by omega
 have hn64:n ≤ 64:=by omega
 clear hc hbig hl
 go_enter Tryz.func123,Tryz.ntmps123
 go_wp2_with fail
 refine HRO.out.mono ?_; rintro e w1 ⟨rfl,rfl⟩
 go_wp2
 go_loopg [5,6] n (fun g s5 s6 wr => ∃ k:Nat,s5 = .int .i64 k ∧ k + g = n ∧ RowKit.Hid (∀ x ∈ R.take k,rootErr σ x = 0) ∧ Adds w wr)
 case atStart => exact ⟨0,rfl,by omega,Lib.hid (fun x hx => by simp at hx),Ch.refl _ _⟩
 obtain ⟨k,rfl,hk,ht,hA⟩:=hrel
 have HA:=Lib.hid hA
 clear hA
 by_cases hkl:k = n
 · subst hkl
   have hk1:¬ (k:Int) < (k:Int):=by omega
   go_wp2
   go_ret
   have h9:rerr σ R = 0:=rerr_zero.2 (fun x hx => ht.out x (by rw [List.take_of_length_le (Nat.le_of_eq HN.out.symm)]; exact hx))
   rw [HC.out,h9]
   exact ⟨rfl,HA.out⟩
 have hk1:(k:Int) < (n:Int):=by omega
 have hk2:k < n:=by omega
 obtain ⟨g,rfl⟩:∃ g,gk = g + 1:=⟨gk - 1,by omega⟩
 obtain ⟨x,hx⟩:∃ x,R[k]? = some x:=⟨_,List.getElem?_eq_getElem (by have:=HN.out; omega)⟩
 obtain ⟨g1,o1,rfl,q1⟩:=HR.out k x hx
 have q1':=HA.out.cell q1 id
 have HX:=Lib.hid hx
 have HRX:=Lib.hid (HRT.out _ HA.out x)
 clear hx q1 HR HRT
 by_cases he:rootErr σ x = 0
 · have hrx:=HRX.out
   rw [he] at hrx
   have HRY:=Lib.hid hrx
   have HE:=Lib.hid he
   clear hrx he
   go_wp2_with fail
   refine HRY.out.mono ?_; rintro e w2 ⟨rfl,a2⟩
   have A2:=Lib.hid (HA.out.trans a2 (fun _ => fEq))
   clear a2
   go_wp2
   go_roundg g
   case measure => omega
   refine ⟨k + 1,by simp,by omega,Lib.hid (fun y hy => ?_),A2.out⟩
   rw [List.take_add_one,HX.out,Option.toList_some,List.mem_append,List.mem_singleton] at hy
   rcases hy with hy | rfl
   · exact ht.out y hy
   exact HE.out
 have hsp:rerr σ R = rootErr σ x:=by
  have hlt:=(List.getElem?_eq_some_iff.1 HX.out).1
  have:R = R.take k ++ x :: R.drop (k + 1):=by
   conv => lhs; rw [← List.take_append_drop k R,List.drop_eq_getElem_cons hlt]
   rw [(List.getElem?_eq_some_iff.1 HX.out).2]
  rw [this]
  exact rerr_split ht.out he
 have HSP:=Lib.hid hsp
 obtain ⟨c,hc⟩:∃ c,c = rootErr σ x:=⟨_,rfl⟩
 have HCC:=Lib.hid hc
 have hrx:=HRX.out
 rw [← hc] at hrx he
 have HRY:=Lib.hid hrx
 clear hrx hc hsp
 go_wp2_with fail
 refine HRY.out.mono ?_; rintro e w2 ⟨rfl,a2⟩
 have A2:=Lib.hid (HA.out.trans a2 (fun _ => fEq))
 clear a2
 go_wp2
 go_ret
 rw [HC.out,HSP.out, ← HCC.out]
 exact ⟨rfl,A2.out⟩
theorem RIn_ok {n:Nat} (cap:Nat) (hR:IntsAt w ao R) (hn:R.length = n) (hl:n < 4611686018427387904) (x:Int) :
 Calls Tryz.prog 128 #[.slice ao n cap,.int .i64 x] w fun e w' => e = .returned (.bool (decide (x ∈ R))) ∧ Adds w w':=by
 have HR:=(hIq hR hn)
 clear hR hn
 go_enter Tryz.func128,Tryz.ntmps128
 go_wp2
 go_loopg [5] n (fun g s5 wr => ∃ k:Nat,s5 = .int .i64 k ∧ k + g = n ∧ RowKit.Hid (x ∉ R.take k) ∧ Adds w wr)
 case atStart => exact ⟨0,rfl,by omega,Lib.hid (by simp),Ch.refl _ _⟩
 obtain ⟨k,rfl,hk,ht,hA⟩:=hrel
 have HA:=Lib.hid hA
 clear hA
 by_cases hkl:k = n
 · subst hkl
   have hk1:¬ (k:Int) < (k:Int):=by omega
   go_wp2
   go_ret
   have h9:decide (x ∈ R) = false:=decide_eq_false (fun hm => ht.out (by rw [List.take_of_length_le (Nat.le_of_eq HR.out.2)]; exact hm))
   rw [h9]
   exact ⟨rfl,HA.out⟩
 have hk1:(k:Int) < (n:Int):=by omega
 have hk2:k < n:=by omega
 obtain ⟨g,rfl⟩:∃ g,gk = g + 1:=⟨gk - 1,by omega⟩
 obtain ⟨y,hy⟩:∃ y,R[k]? = some y:=⟨_,List.getElem?_eq_getElem (by have:=HR.out.2; omega)⟩
 obtain ⟨g1,o1,rfl,q1⟩:=HR.out.1 k y hy
 have q1':=HA.out.cell q1 id
 have HX:=Lib.hid hy
 clear hy q1
 by_cases he:y = x
 · subst he
   have h9:decide (y ∈ R) = true:=decide_eq_true (List.mem_of_getElem? HX.out)
   have H9:=Lib.hid h9
   clear h9
   go_wp2
   go_ret
   rw [H9.out]
   exact ⟨rfl,HA.out⟩
 have HE:=Lib.hid he
 have he2:(y == x) = false:=by simpa using he
 go_wp2
 go_roundg g
 case measure => omega
 refine ⟨k + 1,by simp,by omega,Lib.hid (fun hm => ?_),HA.out⟩
 rw [List.take_add_one,HX.out,Option.toList_some,List.mem_append,List.mem_singleton] at hm
 rcases hm with hm | hm
 · exact ht.out hm
 exact HE.out hm.symm
end
end Go.Proofs.YtmeglndnkdgkoaaGreat.Store
namespace Go.Proofs.YtmeglndnkdgkoaaGreat.Store
open Go.RowKit Go.Sort Go.Proofs.YtmeglndnkdgkoaaGreat.ShaW Go.Proofs.YtmeglndnkdgkoaaGreat.Path
def advIA (a:Option Addr) (cap i:Nat):Option Addr:=if cap = i then a else a.map (·.add (i * 1))
theorem int_infoA:∃ i,Tryz.prog.info? 3 = some i ∧ i.zero = some (.int .i64 0) ∧ i.size = 1 ∧ i.bytes = 8:=by
 obtain ⟨i,h1,h2⟩:=Option.map_eq_some_iff.1 (by kernel_rfl:(Tryz.prog.info? 3).map (fun i => (i.zero,i.size,i.bytes)) = some (some (.int .i64 0),1,8))
 simp only [Prod.mk.injEq] at h2
 exact ⟨i,h1,h2.1,h2.2.1,h2.2.2⟩
theorem wpList_append_ints {w:World} {ops:Array Oper} {rest:List Oper} {o:Oper} {a:Act} {Q:Exit → Act → World → Prop} (hgd:o.guard = none) (s x:Operand)
 (ho:o.op = .call { callee:=.builtin .append,args := #[s,x],argTypes := #[43,43] }) (v:Value) (n:Nat) (xs:List Int) (hs:a.eval s = v) (hown:w.ownsRow 0 3 1 v n (intL xs))
 (ao:Option Addr) (m c:Nat) (l:List Int) (hx:a.eval x = .slice ao m c) (hI:IntsAt w ao l) (hm:l.length = m) (hb:n + m ≤ 1000000)
 (h:∀ v' w',w'.ownsRow 0 3 1 v' (n + m) (intL (xs ++ l)) → w.grownBy w' v.ownBlock → (v'.ownBlock = v.ownBlock ∨ ∀ k,v'.ownBlock = some k → w.heap.size ≤ k) → wpList Tryz.prog ops Q rest (a.put o.dst v') w'):wpList Tryz.prog ops Q (o :: rest) a w:=by
 obtain ⟨i0,p1,p2,p3,p4⟩:=int_infoA
 rcases Nat.eq_zero_or_pos m with h0 | h0
 · have hnil:l = []:=List.eq_nil_of_length_eq_zero (by omega)
   subst hnil
   subst h0
   obtain ⟨base,cap,e,hle⟩:∃ base cap,v = .slice base n cap ∧ n ≤ cap:=by
    rcases hown.2 with ⟨rfl,h1⟩ | ⟨g,cap,cur,rfl,_,_,h3,_⟩
    · exact ⟨none,0,by rw [h1],by omega⟩
    exact ⟨_,cap,rfl,h3⟩
   have hsrc:Src Tryz.prog i0.size 43 (.slice ao 0 c) 0 [] w:=by
    cases ao with
    | none => exact Src.ofNil w Tryz.underlying43 c
    | some ad => exact Src.ofSlice w Tryz.underlying43 ad 0 c [] (by simp) (fun j u hu => by simp at hu) (fun u hu => by cases hu)
   refine wpList_plain hgd fun _ hK => ?_
   have hrun:=run_append_nothing (P:=Tryz.prog) w 43 43 o.type 3 i0 Tryz.underlying43 p1 base n cap hle _ hsrc
   subst e
   unfold Oper.wp
   simp [execOp,ho,resolve,invoke,builtin,hs,hx,hrun,Result.andThen]
   exact hK _ _ (h _ w (by rw [List.append_nil]; exact hown) ⟨rfl,rfl,rfl,Nat.le_refl _,fun _ _ _ => rfl⟩ (.inl rfl))
 obtain ⟨g,off,rfl,_⟩:=hI 0 l[0] (List.getElem?_eq_getElem (by omega))
 refine wpList_append_mine hgd s x 43 ho 3 i0 (.int .i64 0) 1 8 Tryz.underlying43 p1 p2 p3 p4 rfl (by decide) v n (intL xs) hs hown ⟨g,off,none⟩ m c (intL l) hx (by simp [intL,hm]) (fun j u hu => ?_) (fun u hu => ?_) (by unfold maxLen; omega) (by omega) ?_
 · unfold intL at hu
   rw [List.getElem?_map] at hu
   cases hj:l[j]? with
   | none => rw [hj] at hu; cases hu
   | some y =>
    rw [hj] at hu
    obtain rfl:=Option.some.inj hu
    obtain ⟨g',off',e,hc⟩:=hI j y hj
    cases e
    rw [add_plain]
    exact hc
 · unfold intL at hu
   obtain ⟨y,_,rfl⟩:=List.mem_map.1 hu
   rfl
 intro v' w' q1 q2 q3
 exact h v' w' (by unfold intL at *; rw [List.map_append]; exact q1) q2 q3
theorem empty_row (w:World):(w.alloc (.cells #[] 3)).ownsRow 0 3 1 (.slice (some ⟨w.heap.size,0,none⟩) 0 0) 0 (intL []) :=
 ⟨by simp [intL],.inr ⟨w.heap.size,0, #[],rfl,Nat.zero_le _,heap_alloc_new _ _,Nat.le_refl _,Nat.zero_le _,rfl,by simp [intL]⟩⟩
theorem ints_newA (w:World) (l:List Int):IntsAt (w.alloc (.cells (intL l).toArray 3)) (some ⟨w.heap.size,0,none⟩) l:=fun i x hx => by
 refine ⟨_,_,rfl,?_⟩
 rw [Nat.zero_add]
 refine row_cell (heap_alloc_new w _) ?_
 simp [intL,hx]
theorem owns_based {w w':World} {e b sz n:Nat} {v v':Value} {xs:List Value} (own:w'.ownsRow 0 e sz v' n xs) (hlow:∀ k,v.ownBlock = some k → b ≤ k) (hb:b ≤ w.heap.size) (loc:v'.ownBlock = v.ownBlock ∨ ∀ k,v'.ownBlock = some k → w.heap.size ≤ k):w'.ownsRow b e sz v' n xs :=
 own.base (fun k hk => by
  rcases loc with e | e
  · rw [e] at hk; exact hlow k hk
  have:=e k hk; omega)
end Go.Proofs.YtmeglndnkdgkoaaGreat.Store

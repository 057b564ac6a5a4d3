/- Laws of the layers below. -/
import Derived.Test.YtmeglndnkdgkoaaGreatQe27
set_option maxHeartbeats 3200000
set_option maxRecDepth 100000
set_option linter.unusedVariables false
namespace Go.Proofs.YtmeglndnkdgkoaaGreat.Store
open Go.RowKit Go.Proofs.YtmeglndnkdgkoaaGreat.ShaW Go.Proofs.YtmeglndnkdgkoaaGreat.Path
section
variable {σ : SlabSt Nd} {R : List Int} {k : Wk} {x : Int}
theorem Wanted.wtodo (H:Wanted σ R k) (x:Int):(k.want x).todo = if x ≠ 0 ∧ x ∉ k.todo then k.todo ++ [x] else k.todo:=by
 by_cases h0:x = 0
 · subst h0; rw [Wk.want_zero,if_neg (fun h => h.1 rfl)]
 rw [Wk.want_ne k h0]
 have h1:=H.mem x
 by_cases hm:x ∈ k.todo
 · have:¬ k.cnt x = 0:=by have:=h1.1 hm; omega
   show (if k.cnt x = 0 then k.todo ++ [x] else k.todo) = _
   rw [if_neg this,if_neg (fun h => h.2 hm)]
 have:k.cnt x = 0:=by
  by_cases e:k.cnt x = 0
  · exact e
  exact absurd (h1.2 (by omega)) hm
 show (if k.cnt x = 0 then k.todo ++ [x] else k.todo) = _
 rw [if_pos this,if_pos ⟨h0,hm⟩]
end
def MetAt (w0 w:World) (v:Value) (l:List Int):Prop:=(∃ q qc,v = .slice q l.length qc ∧ w.ownsRow w0.heap.size 3 1 (.slice q l.length qc) l.length (intL l)) ∧ Adds w0 w
theorem MetAt.adds {w0 w w':World} {v:Value} {l:List Int} (h:MetAt w0 w v l) (a:Adds w w'):MetAt w0 w' v l:=by
 obtain ⟨⟨q,qc,h1,h2⟩,h3⟩:=h
 exact ⟨⟨q,qc,h1,a.owns h2 (fun _ _ h => h)⟩,h3.trans a (fun _ => fEq)⟩
theorem MetAt.base {w w3 w':World} {v:Value} {l:List Int} (h:MetAt w3 w' v l) (a:Adds w w3):MetAt w w' v l:=by
 obtain ⟨⟨q,qc,h1,h2⟩,h3⟩:=h
 exact ⟨⟨q,qc,h1,h2.base (fun k hk => Nat.le_trans a.size (h2.lt k hk).1)⟩,a.trans h3 (fun _ => fEq)⟩
theorem wp_met {w0 w:World} {ops:Array Oper} {rest:List Oper} {o:Oper} {a:Act} {Q:Exit → Act → World → Prop} (hgd:o.guard = none) (s x:Operand)
 (ho:o.op = .call { callee:=.builtin .append,args := #[s,x],argTypes := #[43,43] }) (v:Value) (l:List Int) (hs:a.eval s = v) (y:Int) (hm:MetAt w0 w v l) (hl:l.length ≤ 100000)
 (hx:a.eval x = .slice (some ⟨w.heap.size,0,none⟩) 1 1)
 (h:∀ v' w',MetAt w0 w' v' (l ++ [y]) → wpList Tryz.prog ops Q rest (a.put o.dst v') w'):wpList Tryz.prog ops Q (o :: rest) a (w.alloc (.cells (intL [y]).toArray 3)):=by
 obtain ⟨⟨q,qc,rfl,h2⟩,h3⟩:=hm
 have a0:Adds w (w.alloc (.cells (intL [y]).toArray 3)):=(Ch.refl _ w).alloc _
 refine wpList_append_ints hgd s x ho (.slice q l.length qc) l.length l hs ((a0.owns h2 (fun _ _ h => h)).base (fun _ _ => Nat.zero_le _)) _ 1 1 [y] hx (ints_newA w [y]) rfl (by omega) ?_
 intro v' w' own' grow' loc'
 have hlow:∀ k,(Value.slice q l.length qc).ownBlock = some k → w0.heap.size ≤ k:=fun k hk => (h2.lt k hk).1
 obtain ⟨qo,qc',rfl⟩:=owns_form own'
 refine h _ w' ⟨⟨qo,qc',?_,?_⟩,(h3.alloc _).grown grow' (fun k hk => .inr (hlow k hk))⟩
 · rw [List.length_append]; rfl
 have:=owns_based own' hlow (by have:=h3.size; simp; omega) loc'
 rw [List.length_append]
 exact this
section
variable {w0 w : World} {b : Nat} {σ : SlabSt Nd} {G : Nat → Prop} {ao : Option Addr} {R : List Int}
theorem RReached_bad (h:ROw w0 w b σ G) (GG:Good σ) (cap:Nat) (hR:IntsAt w ao R) (hl:R.length < 4611686018427387904) (hc:chk σ R ≠ 0) :
 Calls Tryz.prog 54 #[.pointer (some ⟨b,0,none⟩),.slice ao R.length cap] w fun e w' => e = .returned (.tuple #[.slice none 0 0,.int .i64 (chk σ R)]) ∧ Adds w w':=by
 have hk:=RWrong_ok h GG cap hR hl
 obtain ⟨c,hcc⟩:∃ c,c = chk σ R:=⟨_,rfl⟩
 rw [← hcc] at hk hc ⊢
 obtain ⟨n,hn⟩:∃ n,n = R.length:=⟨_,rfl⟩
 rw [← hn] at hk ⊢
 have HK:=Lib.hid hk
 have hcb:(c != 0) = true:=by simpa using hc
 clear hk hcc hn hR h hl hc
 go_enter Tryz.func54,Tryz.ntmps54
 go_wp2_with fail
 refine HK.out.mono ?_; rintro e w1 ⟨rfl,a1⟩
 have A1:=Lib.hid a1
 clear a1
 go_wp2
 go_ret2
 exact ⟨rfl,A1.out⟩
theorem RReached_good (h:ROw w0 w b σ G) (GG:Good σ) (cap:Nat) (hR:IntsAt w ao R) (hc:chk σ R = 0) :
 Calls Tryz.prog 54 #[.pointer (some ⟨b,0,none⟩),.slice ao R.length cap] w fun e w' => ∃ v k,e = .returned (.tuple #[v,.int .i64 0]) ∧ Wanting σ R k.todo.length k ∧ MetAt w w' v (reachI k.todo (handles σ)):=by
 obtain ⟨hl,hh⟩:=chk_there hc
 have hk:=RWrong_ok h GG cap hR (by omega)
 rw [hc] at hk
 obtain ⟨N,hN⟩:∃ N,N = R.length:=⟨_,rfl⟩
 rw [← hN] at hk hl ⊢
 have hsd:=fun w1 (a:Adds w w1) x => (h.adds a).sides GG x
 have hhd:=fun w1 (a:Adds w w1) => (h.adds a).handles GG
 have HK:=(hIq hk (aIq hsd hhd))
 have HR:=(hIq hR (aIq hN hh))
 have HG:=Lib.hid GG
 clear hk hsd hhd hR hN hh h GG hc
 go_enter Tryz.func54,Tryz.ntmps54
 go_wp2_with fail
 refine HK.out.1.mono ?_; rintro e w1 ⟨rfl,a1⟩
 have A1:=Lib.hid a1
 clear a1
 go_wp2
 go_loopg [7,8] N (fun g s7 s8 wr => ∃ (i:Nat) (k:Wk),s8 = .int .i64 i ∧ i + g = N ∧ MetAt w wr s7 k.todo ∧ Wanting σ (R.take i) 0 k)
 case atStart => exact ⟨0,Wk.start,rfl,by omega,⟨⟨none,0,rfl,World.ownsRow_nil _ _ _ _⟩,A1.out⟩,Wanting.start σ⟩
 obtain ⟨i,k,rfl,hi,hM,hK⟩:=hrel
 have hsm:k.todo.length ≤ 65536:=hK.len HG.out.sound
 obtain ⟨⟨q,qc,rfl,hown⟩,hA⟩:=hM
 have hI:=IntsAt.own hown
 obtain ⟨len,hlen⟩:∃ len,len = k.todo.length:=⟨_,rfl⟩
 have HM:=(hIq (show MetAt w wr (.slice q k.todo.length qc) k.todo from ⟨⟨q,qc,rfl,hown⟩,hA⟩) (aIq hK hI.1))
 rw [← hlen] at HM hsm ⊢
 have HL:=Lib.hid hlen
 clear hown hA hK hI hlen
 by_cases hin:i = N
 · subst hin
   have hlt:¬ (i:Int) < (i:Int):=by omega
   have hK0:Wanting σ R 0 k:=by
    have:=HM.out.2.1
    rwa [List.take_of_length_le (Nat.le_of_eq HR.out.2.1.symm)] at this
   have HS:=(hIq HM.out.1 hK0)
   clear hK0 hi HM
   go_wp2
   go_loopg [7,9,10,11] 70000 (fun g s7 s9 s10 s11 wr => ∃ (j:Nat) (k:Wk),s9 = .int .i64 j ∧ j + g = 70000 ∧ j ≤ k.todo.length ∧ MetAt w wr s7 k.todo ∧ Wanting σ R j k)
   case atStart => exact ⟨0,k,rfl,rfl,Nat.zero_le _,HS.out.1,HS.out.2⟩
   obtain ⟨j,k2,rfl,hj,hjl,hM,hK⟩:=hrel
   have hsm2:k2.todo.length ≤ 65536:=hK.len HG.out.sound
   obtain ⟨⟨q2,qc2,rfl,hown⟩,hA⟩:=hM
   have hI:=IntsAt.own hown
   obtain ⟨len2,hlen⟩:∃ len,len = k2.todo.length:=⟨_,rfl⟩
   have HM:=(hIq (show MetAt w wr (.slice q2 k2.todo.length qc2) k2.todo from ⟨⟨q2,qc2,rfl,hown⟩,hA⟩) (aIq hK (aIq hI.1 hA)))
   rw [← hlen] at HM hsm2 hjl ⊢
   have HL2:=Lib.hid hlen
   clear hown hA hK hI hlen HS
   by_cases hjn:j = len2
   · subst hjn
     have hlt2:¬ (j:Int) < (j:Int):=by omega
     have hK2:Wanting σ R k2.todo.length k2:=by have:=HM.out.2.1; rwa [HL2.out] at this
     have HK2:=Lib.hid hK2
     have HHD:=Lib.hid (HK.out.2.2 _ HM.out.2.2.2)
     clear hK2 hj
     go_wp2_with fail
     refine HHD.out.mono ?_; rintro e w3 ⟨v3,rfl,o3,a3⟩
     have hhs:(handles σ).length ≤ 65536:=handles_le HG.out
     obtain ⟨vo,vc,rfl⟩:=owns_form o3
     have hi3:IntsAt w3 vo ((handles σ).map fun n:Nat => (n:Int)):=by
      have:ints (handles σ) = intL ((handles σ).map fun n:Nat => (n:Int)):=by simp [ints,intL,List.map_map]
      rw [this] at o3
      exact (IntsAt.own o3).1
     obtain ⟨L,hL⟩:∃ L,L = (handles σ).length:=⟨_,rfl⟩
     rw [← hL] at hhs ⊢
     have H3:=(hIq hi3 (aIq (HM.out.2.2.1.adds a3) (aIq (HM.out.2.2.2.trans a3 (fun _ => fEq)) hL)))
     clear hi3 o3 a3 hL HHD
     go_wp2
     go_loopg [12,14] L (fun g s12 s14 wr => ∃ i:Nat,s14 = .int .i64 i ∧ i + g = L ∧ MetAt w3 wr s12 (reachI k2.todo ((handles σ).take i)))
     case atStart => exact ⟨0,rfl,by omega,⟨⟨none,0,rfl,World.ownsRow_nil _ _ _ _⟩,Ch.refl _ _⟩⟩
     obtain ⟨i3,rfl,hi3,hM3⟩:=hrel
     obtain ⟨⟨q3,qc3,rfl,hown3⟩,hA4⟩:=hM3
     have hr3:=reachI_len k2.todo ((handles σ).take i3)
     rw [List.length_take] at hr3
     obtain ⟨l3,hl3⟩:∃ l3,l3 = (reachI k2.todo ((handles σ).take i3)).length:=⟨_,rfl⟩
     have hl36:l3 ≤ 65536:=by have:=H3.out.2.2.2; omega
     have HM3:=(hIq (show MetAt w3 wr (.slice q3 (reachI k2.todo ((handles σ).take i3)).length qc3) (reachI k2.todo ((handles σ).take i3)) from ⟨⟨q3,qc3,rfl,hown3⟩,hA4⟩) hA4)
     rw [← hl3] at HM3 ⊢
     have HL3:=Lib.hid hl3
     clear hown3 hA4 hl3 hr3
     by_cases hi3n:i3 = L
     · subst hi3n
       have hlt3:¬ (i3:Int) < (i3:Int):=by omega
       clear hi3
       go_wp2
       go_ret2
       refine ⟨_,rfl,k2,HK2.out,?_⟩
       have:=HM3.out.1
       rw [List.take_of_length_le (Nat.le_of_eq H3.out.2.2.2.symm)] at this
       exact this.base H3.out.2.2.1
     have hlt3:(i3:Int) < (L:Int):=by omega
     have hlt3':i3 < L:=by omega
     obtain ⟨g,rfl⟩:∃ g,gk = g + 1:=⟨gk - 1,by omega⟩
     obtain ⟨x,hx⟩:∃ x,(handles σ)[i3]? = some x:=⟨_,List.getElem?_eq_getElem (by have:=H3.out.2.2.2; omega)⟩
     obtain ⟨g1,o1,rfl,q1⟩:=H3.out.1 i3 (x:Int) (by rw [List.getElem?_map,hx]; rfl)
     have hin:=fun w1 (a:Adds wr w1) => RIn_ok qc2 (H3.out.2.1.adds (HM3.out.2.trans a (fun _ => fEq))) HL2.out.symm (by omega) (x:Int)
     have q1':=HM3.out.2.cell q1 id
     have hsn:(handles σ).take (i3 + 1) = (handles σ).take i3 ++ [x]:=by rw [List.take_add_one,hx]; rfl
     have hstep:=reachI_snoc k2.todo ((handles σ).take i3) x
     rw [← hsn] at hstep
     have HIN:=Lib.hid hin
     have HST:=Lib.hid hstep
     have HQ1:RowKit.Hid (∀ w1,Adds wr w1 → w1.cell? ⟨g1,o1 + i3,none⟩ = some (.int .i64 (x:Int))):=Lib.hid (fun w1 a => a.cell q1' id)
     clear hx q1 hin hsn hstep
     by_cases hm:(x:Int) ∈ k2.todo
     · have hmb:decide ((x:Int) ∈ k2.todo) = true:=decide_eq_true hm
       have HSE:=HST.out
       rw [if_pos hm] at HSE
       have HSE:=Lib.hid HSE
       have hin2:=HIN.out wr (Ch.refl _ _)
       rw [hmb] at hin2
       have HI2:=Lib.hid hin2
       clear hm hmb hin2 HIN
       go_wp2_with fail
       refine HI2.out.mono ?_; rintro e w4 ⟨rfl,a4⟩
       have q2':=HQ1.out _ a4
       have hm4:=Lib.hid (HM3.out.1.adds a4)
       clear a4 q1'
       go_wp2_with (first
        | fail
        | (at_builtin; refine wp_met rfl _ _ rfl _ (reachI k2.todo ((handles σ).take i3)) rfl (x:Int) hm4.out (by rw [← HL3.out]; omega) rfl ?_; intro v' w5 hm5))
       go_roundg g
       case measure => omega
       exact ⟨i3 + 1,by simp,by omega,by rw [HSE.out]; exact hm5⟩
     have hmb:decide ((x:Int) ∈ k2.todo) = false:=decide_eq_false hm
     have HSE:=HST.out
     rw [if_neg hm,List.append_nil] at HSE
     have HSE:=Lib.hid HSE
     have hin2:=HIN.out wr (Ch.refl _ _)
     rw [hmb] at hin2
     have HI2:=Lib.hid hin2
     clear hm hmb hin2 HIN
     go_wp2_with fail
     refine HI2.out.mono ?_; rintro e w4 ⟨rfl,a4⟩
     have hm4:=Lib.hid (HM3.out.1.adds a4)
     clear a4 q1'
     go_wp2
     go_roundg g
     case measure => omega
     exact ⟨i3 + 1,by simp,by omega,by rw [HSE.out]; exact hm4.out⟩
   have hj1:(j:Int) < (len2:Int):=by omega
   have hj2:j < len2:=by omega
   obtain ⟨g,rfl⟩:∃ g,gk = g + 1:=⟨gk - 1,by omega⟩
   obtain ⟨x,hx⟩:∃ x,k2.todo[j]? = some x:=⟨_,List.getElem?_eq_getElem (by have:=HL2.out; omega)⟩
   obtain ⟨g1,o1,rfl,q1⟩:=HM.out.2.2.1 j x hx
   have hsd:=HK.out.2.1 _ HM.out.2.2.2 x
   obtain ⟨l,hl'⟩:∃ l,l = (nd σ x).left:=⟨_,rfl⟩
   obtain ⟨r,hr'⟩:∃ r,r = (nd σ x).right:=⟨_,rfl⟩
   rw [← hl', ← hr'] at hsd
   have hso:=side_ok HG.out.sound x
   have hKs:=HM.out.2.1.side hx hso.1 hso.2
   have hKw:=HM.out.2.1.ed.want hso.1 (fun h0 => .left (HM.out.2.1.fro x (List.mem_of_getElem? hx)) h0)
   rw [← hl', ← hr'] at hKs hso
   rw [← hl'] at hKw
   have hk5l:(k2.want l).todo.length ≤ 65536:=Nat.le_trans hKw.len (handles_le HG.out)
   have HKS:=(hIq hKs (aIq hso (aIq hKw hk5l)))
   have HSX:=Lib.hid hsd
   clear hx hsd hl' hr' hso hKs hKw hk5l
   go_wp2_with fail
   refine HSX.out.mono ?_; rintro e w3 ⟨rfl,a3⟩
   have H3:=Lib.hid (HM.out.1.adds a3)
   have hin:=fun w1 (a:Adds w3 w1) x => RIn_ok (ao:=some ⟨g1,o1,none⟩) qc2 (HM.out.2.2.1.adds (a3.trans a (fun _ => fEq))) HL2.out.symm (by omega) x
   have HIN:=Lib.hid hin
   clear hin a3 q1
   go_upto_region 14 with fail
   obtain ⟨B,hB⟩:∃ B,B = decide (l ≠ 0 ∧ l ∉ k2.todo):=⟨_,rfl⟩
   have HB:=Lib.hid hB
   clear hB
   go_cut [70] (fun s70 wx => s70 = .bool B ∧ Adds w3 wx)
   case first =>
    by_cases h0:l = 0
    · have b0:(l != 0) = false:=by simpa using h0
      have hb:B = false:=by rw [HB.out]; exact decide_eq_false (fun h => h.1 h0)
      clear h0
      go_wp2
      go_meet
      exact ⟨by rw [hb],Ch.refl _ _⟩
    have b0:(l != 0) = true:=by simpa using h0
    have hin2:=HIN.out w3 (Ch.refl _ _) l
    by_cases hm:l ∈ k2.todo
    · rw [decide_eq_true hm] at hin2
      have hb:B = false:=by rw [HB.out]; exact decide_eq_false (fun h => h.2 hm)
      have HI2:=Lib.hid hin2
      have HBB:=Lib.hid hb
      clear h0 hm hin2 hb
      go_wp2_with fail
      refine HI2.out.mono ?_; rintro e w4 ⟨rfl,a4⟩
      go_wp2
      go_meet
      exact ⟨by rw [HBB.out],a4⟩
    rw [decide_eq_false hm] at hin2
    have hb:B = true:=by rw [HB.out]; exact decide_eq_true ⟨h0,hm⟩
    have HI2:=Lib.hid hin2
    have HBB:=Lib.hid hb
    clear h0 hm hin2 hb
    go_wp2_with fail
    refine HI2.out.mono ?_; rintro e w4 ⟨rfl,a4⟩
    go_wp2
    go_meet
    exact ⟨by rw [HBB.out],a4⟩
   obtain ⟨rfl,a4⟩:=hcut
   have H4:=(hIq (H3.out.adds a4) a4)
   have hwt:=HM.out.2.1.ed.wtodo l
   have HWT:=Lib.hid hwt
   clear a4 hwt
   go_upto_if 70 with fail
   go_cut [7] (fun s7 wx => MetAt w wx s7 (k2.want l).todo)
   case first =>
    cases B with
    | true =>
     have hwt:=HWT.out
     rw [if_pos (of_decide_eq_true HB.out.symm)] at hwt
     have HW2:=Lib.hid hwt
     clear hwt
     go_wp2_with (first
      | fail
      | (at_builtin; refine wp_met rfl _ _ rfl _ k2.todo rfl l H4.out.1 (by rw [← HL2.out]; omega) rfl ?_; intro v' w5 hm5))
     go_meet
     rw [HW2.out]; exact hm5
    | false =>
     have hwt:=HWT.out
     rw [if_neg (of_decide_eq_false HB.out.symm)] at hwt
     have HW2:=Lib.hid hwt
     clear hwt
     go_wp2
     go_meet
     rw [HW2.out]; exact H4.out.1
   obtain ⟨⟨q5,qc5,rfl,own5⟩,a5⟩:=hcut
   have hI5:=(IntsAt.own own5).1
   obtain ⟨len5,hlen5⟩:∃ len,len = (k2.want l).todo.length:=⟨_,rfl⟩
   have hl56:len5 ≤ 65536:=by rw [hlen5]; exact HKS.out.2.2.2
   have H5:=Lib.hid (show MetAt w wc (.slice q5 (k2.want l).todo.length qc5) (k2.want l).todo from ⟨⟨q5,qc5,rfl,own5⟩,a5⟩)
   have hin:=fun w1 (a:Adds wc w1) x => RIn_ok (ao:=q5) qc5 (hI5.adds a) hlen5.symm (by omega) x
   rw [← hlen5] at H5 ⊢
   have HL5:=Lib.hid hlen5
   have HIN5:=Lib.hid hin
   clear own5 a5 hI5 hlen5 hin
   go_upto_region 16 with fail
   obtain ⟨B2,hB2⟩:∃ B,B = decide (r ≠ 0 ∧ r ∉ (k2.want l).todo):=⟨_,rfl⟩
   have HB2:=Lib.hid hB2
   obtain ⟨W5,hW5⟩:∃ W5,W5 = wc:=⟨_,rfl⟩
   subst hW5
   clear hB2
   go_cut [82] (fun s82 wx => s82 = .bool B2 ∧ Adds W5 wx)
   case first =>
    by_cases h0:r = 0
    · have b0:(r != 0) = false:=by simpa using h0
      have hb:B2 = false:=by rw [HB2.out]; exact decide_eq_false (fun h => h.1 h0)
      clear h0
      go_wp2
      go_meet
      exact ⟨by rw [hb],Ch.refl _ _⟩
    have b0:(r != 0) = true:=by simpa using h0
    have hin2:=HIN5.out W5 (Ch.refl _ _) r
    by_cases hm:r ∈ (k2.want l).todo
    · rw [decide_eq_true hm] at hin2
      have hb:B2 = false:=by rw [HB2.out]; exact decide_eq_false (fun h => h.2 hm)
      have HI2:=Lib.hid hin2
      have HBB:=Lib.hid hb
      clear h0 hm hin2 hb
      go_wp2_with fail
      refine HI2.out.mono ?_; rintro e w4 ⟨rfl,a4⟩
      go_wp2
      go_meet
      exact ⟨by rw [HBB.out],a4⟩
    rw [decide_eq_false hm] at hin2
    have hb:B2 = true:=by rw [HB2.out]; exact decide_eq_true ⟨h0,hm⟩
    have HI2:=Lib.hid hin2
    have HBB:=Lib.hid hb
    clear h0 hm hin2 hb
    go_wp2_with fail
    refine HI2.out.mono ?_; rintro e w4 ⟨rfl,a4⟩
    go_wp2
    go_meet
    exact ⟨by rw [HBB.out],a4⟩
   obtain ⟨rfl,a6⟩:=hcut
   have H6:=Lib.hid (H5.out.adds a6)
   have hwt2:=HKS.out.2.2.1.wtodo r
   have HWT2:=Lib.hid hwt2
   clear a6 hwt2
   have HEND:RowKit.Hid (j + 1 ≤ ((k2.want l).want r).todo.length):=Lib.hid (by
    obtain ⟨l1,e1,_⟩:=Wk.want_todo k2 l
    obtain ⟨l2,e2,_⟩:=Wk.want_todo (k2.want l) r
    rw [e2,e1,List.length_append,List.length_append, ← HL2.out]
    omega)
   cases B2 with
   | true =>
    have hwt:=HWT2.out
    rw [if_pos (of_decide_eq_true HB2.out.symm)] at hwt
    have HW2:=Lib.hid hwt
    clear hwt
    go_wp2_with (first
     | fail
     | (at_builtin; refine wp_met rfl _ _ rfl _ (k2.want l).todo rfl r H6.out (by rw [← HL5.out]; omega) rfl ?_; intro v' w5 hm5))
    go_roundg g
    case measure => omega
    exact ⟨j + 1,(k2.want l).want r,by simp,by omega,HEND.out,by rw [HW2.out]; exact hm5,HKS.out.1⟩
   | false =>
    have hwt:=HWT2.out
    rw [if_neg (of_decide_eq_false HB2.out.symm)] at hwt
    have HW2:=Lib.hid hwt
    clear hwt
    go_wp2
    go_roundg g
    case measure => omega
    exact ⟨j + 1,(k2.want l).want r,by simp,by omega,HEND.out,by rw [HW2.out]; exact H6.out,HKS.out.1⟩
 have hlt:(i:Int) < (N:Int):=by omega
 have hlt':i < N:=by omega
 obtain ⟨g,rfl⟩:∃ g,gk = g + 1:=⟨gk - 1,by omega⟩
 obtain ⟨x,hx⟩:∃ x,R[i]? = some x:=⟨_,List.getElem?_eq_getElem (by have:=HR.out.2.1; omega)⟩
 obtain ⟨g1,o1,rfl,q1⟩:=HR.out.1 i x hx
 have q1':=HM.out.1.2.cell q1 id
 have hin:=fun w1 (a:Adds wr w1) => RIn_ok (ao:=q) qc (HM.out.2.2.adds a) HL.out.symm (by omega) x
 have hsn:R.take (i + 1) = R.take i ++ [x]:=by rw [List.take_add_one,hx]; rfl
 have hK1:Wanting σ (R.take (i + 1)) 0 (k.want x):=by rw [hsn]; exact HM.out.2.1.mono (HR.out.2.2 x (List.mem_of_getElem? hx))
 have hwt:=HM.out.2.1.ed.wtodo x
 have HWT:=(hIq hwt hK1)
 have HQ1:RowKit.Hid (∀ w1,Adds wr w1 → w1.cell? ⟨g1,o1 + i,none⟩ = some (.int .i64 x)):=Lib.hid (fun w1 a => a.cell q1' id)
 have HIN:=Lib.hid hin
 clear hx q1 hin hsn hK1 hwt
 by_cases h0:x = 0
 · have b0:(x != 0) = false:=by simpa using h0
   have hwt:=HWT.out.1
   rw [if_neg (fun h => h.1 h0)] at hwt
   have HW2:=Lib.hid hwt
   clear hwt h0
   go_wp2
   go_roundg g
   case measure => omega
   exact ⟨i + 1,k.want x,by simp,by omega,by rw [HW2.out]; exact HM.out.1,HWT.out.2⟩
 have b0:(x != 0) = true:=by simpa using h0
 have hin2:=HIN.out wr (Ch.refl _ _)
 by_cases hm:x ∈ k.todo
 · rw [decide_eq_true hm] at hin2
   have hwt:=HWT.out.1
   rw [if_neg (fun h => h.2 hm)] at hwt
   have HW2:=Lib.hid hwt
   have HI2:=Lib.hid hin2
   clear hwt h0 hm hin2
   go_wp2_with fail
   refine HI2.out.mono ?_; rintro e w4 ⟨rfl,a4⟩
   have H4:=Lib.hid (HM.out.1.adds a4)
   clear a4
   go_wp2
   go_roundg g
   case measure => omega
   exact ⟨i + 1,k.want x,by simp,by omega,by rw [HW2.out]; exact H4.out,HWT.out.2⟩
 rw [decide_eq_false hm] at hin2
 have hwt:=HWT.out.1
 rw [if_pos ⟨h0,hm⟩] at hwt
 have HW2:=Lib.hid hwt
 have HI2:=Lib.hid hin2
 clear hwt h0 hm hin2
 go_wp2_with fail
 refine HI2.out.mono ?_; rintro e w4 ⟨rfl,a4⟩
 have q2':=HQ1.out _ a4
 have H4:=Lib.hid (HM.out.1.adds a4)
 clear a4 q1'
 go_wp2_with (first
  | fail
  | (at_builtin; refine wp_met rfl _ _ rfl _ k.todo rfl x H4.out (by rw [← HL.out]; omega) rfl ?_; intro v' w5 hm5))
 go_roundg g
 case measure => omega
 exact ⟨i + 1,k.want x,by simp,by omega,by rw [HW2.out]; exact hm5,HWT.out.2⟩
theorem RReached_any (h:ROw w0 w b σ G) (GG:Good σ) (cap:Nat) (hR:IntsAt w ao R) (hl:R.length < 4611686018427387904) :
 Calls Tryz.prog 54 #[.pointer (some ⟨b,0,none⟩),.slice ao R.length cap] w fun e w' => AuditRet w w' σ R (fun k => reachI k.todo (handles σ)) e:=by
 unfold AuditRet
 by_cases hc:chk σ R = 0
 · refine (RReached_good h GG cap hR hc).mono fun e w' ⟨v,k,he,hW,⟨⟨q,qc,hv,own⟩,ha⟩⟩ => ?_
   subst hv
   exact ⟨q,qc,_,by rw [he,hc],own,ha,.inr ⟨hc,k,hW,rfl⟩⟩
 refine (RReached_bad h GG cap hR hl hc).mono fun e w' ⟨he,ha⟩ => ⟨none,0,[],he,World.ownsRow_nil _ _ _ _,ha,.inl ⟨hc,rfl⟩⟩
end
end Go.Proofs.YtmeglndnkdgkoaaGreat.Store

/- Laws of the layers below. -/
import Derived.Test.YtmeglndnkdgkoaaGreatQe28
set_option maxHeartbeats 3200000
set_option maxRecDepth 100000
set_option linter.unusedVariables false
namespace Go.Proofs.YtmeglndnkdgkoaaGreat.Store
open Go.RowKit Go.Proofs.YtmeglndnkdgkoaaGreat.ShaW Go.Proofs.YtmeglndnkdgkoaaGreat.Path
theorem sum_refs_snoc {σ:SlabSt Nd} {L:List Int} {i:Nat} {x h:Int} (hx:L[i]? = some x):((L.take (i + 1)).map fun y => refs (nd σ y) h).sum = ((L.take i).map fun y => refs (nd σ y) h).sum + refs (nd σ x) h:=by
 rw [List.take_add_one,hx,Option.toList_some,List.map_append,List.sum_append]
 simp
theorem count_snoc {R:List Int} {i:Nat} {x h:Int} (hx:R[i]? = some x):(R.take (i + 1)).count h = (R.take i).count h + (if x = h then 1 else 0):=by
 rw [List.take_add_one,hx,Option.toList_some,List.count_append]
 by_cases e:x = h
 · subst e; simp
 rw [if_neg e]; simp [e]
section
variable {w0 w : World} {b : Nat} {σ : SlabSt Nd} {G : Nat → Prop} {ao lo : Option Addr} {R L : List Int}
theorem RWant_ok (h:ROw w0 w b σ G) (GG:Good σ) {ln rn:Nat} (lc rc:Nat) (hL:IntsAt w lo L) (hln:L.length = ln) (hl6:ln ≤ 65536) (hR:IntsAt w ao R) (hrn:R.length = rn) (hr6:rn ≤ 64) (x:Int) :
 Calls Tryz.prog 118 #[.pointer (some ⟨b,0,none⟩),.slice lo ln lc,.slice ao rn rc,.int .i64 x] w fun e w' => e = .returned (.int .i64 (wantL σ L R x:Nat)) ∧ Adds w w':=by
 have hsd:=fun w1 (a:Adds w w1) x => (h.adds a).sides GG x
 have HSD:=Lib.hid hsd
 have HL:=(hIq hL hln)
 have HR:=(hIq hR hrn)
 clear hsd hL hR hln hrn h GG
 go_enter Tryz.func118,Tryz.ntmps118
 go_wp2
 go_loopg [9,10,11,12] ln (fun g s9 s10 s11 s12 wr => ∃ (i m:Nat),s10 = .int .i64 i ∧ s9 = .int .i64 m ∧ i + g = ln ∧ m ≤ 2 * i ∧ RowKit.Hid (m = ((L.take i).map fun y => refs (nd σ y) x).sum) ∧ Adds w wr)
 case atStart => exact ⟨0,0,rfl,rfl,by omega,by omega,Lib.hid (by simp),Ch.refl _ _⟩
 obtain ⟨i,m,rfl,rfl,hi,hm,hs,hA⟩:=hrel
 have HA:=Lib.hid hA
 clear hA
 by_cases hin:i = ln
 · subst hin
   have hlt:¬ (i:Int) < (i:Int):=by omega
   have hs1:RowKit.Hid (m = (L.map fun y => refs (nd σ y) x).sum):=Lib.hid (by have:=hs.out; rwa [List.take_of_length_le (Nat.le_of_eq HL.out.2)] at this)
   clear hs hi
   go_wp2
   go_loopg [9,13] rn (fun g s9 s13 wr => ∃ (i m2:Nat),s13 = .int .i64 i ∧ s9 = .int .i64 m2 ∧ i + g = rn ∧ m2 ≤ m + i ∧ RowKit.Hid (m2 = m + (R.take i).count x) ∧ Adds w wr)
   case atStart => exact ⟨0,m,rfl,rfl,by omega,by omega,Lib.hid (by simp),HA.out⟩
   obtain ⟨i2,m2,rfl,rfl,hi2,hm2,hs2,hA⟩:=hrel
   have HA2:=Lib.hid hA
   clear hA HA
   by_cases hin2:i2 = rn
   · subst hin2
     have hlt2:¬ (i2:Int) < (i2:Int):=by omega
     go_wp2
     go_ret
     have hfin:m2 = wantL σ L R x:=by
      have h2:=hs2.out
      rw [List.take_of_length_le (Nat.le_of_eq HR.out.2),hs1.out] at h2
      exact h2
     exact ⟨by rw [← hfin]; rfl,HA2.out⟩
   have hlt2:(i2:Int) < (rn:Int):=by omega
   have hlt2':i2 < rn:=by omega
   obtain ⟨g,rfl⟩:∃ g,gk = g + 1:=⟨gk - 1,by omega⟩
   obtain ⟨y,hy⟩:∃ y,R[i2]? = some y:=⟨_,List.getElem?_eq_getElem (by have:=HR.out.2; omega)⟩
   obtain ⟨g1,o1,rfl,q1⟩:=HR.out.1 i2 y hy
   have q1':=HA2.out.cell q1 id
   have hsn:=count_snoc (h:=x) hy
   have HSN:=Lib.hid hsn
   have hw2:IntKind.i64.wrap ((m2:Int) + 1) = (m2:Int) + 1:=IntWalk.i64_in _ (by omega)
   clear hy q1 hsn
   by_cases e:y = x
   · have HE:=HSN.out
     rw [if_pos e] at HE
     have HE:=Lib.hid HE
     go_wp2
     go_roundg g
     case measure => omega
     exact ⟨i2 + 1,m2 + 1,by simp,by simp,by omega,by omega,Lib.hid (by have:=HE.out; have:=hs2.out; omega),HA2.out⟩
   have HE:=HSN.out
   rw [if_neg e] at HE
   have HE:=Lib.hid HE
   go_wp2
   go_roundg g
   case measure => omega
   exact ⟨i2 + 1,m2,by simp,rfl,by omega,by omega,Lib.hid (by have:=HE.out; have:=hs2.out; omega),HA2.out⟩
 have hlt:(i:Int) < (ln:Int):=by omega
 have hlt':i < ln:=by omega
 obtain ⟨g,rfl⟩:∃ g,gk = g + 1:=⟨gk - 1,by omega⟩
 obtain ⟨y,hy⟩:∃ y,L[i]? = some y:=⟨_,List.getElem?_eq_getElem (by have:=HL.out.2; omega)⟩
 obtain ⟨g1,o1,rfl,q1⟩:=HL.out.1 i y hy
 have q1':=HA.out.cell q1 id
 have hsn:=sum_refs_snoc (σ:=σ) (h:=x) hy
 have hsd:=HSD.out _ HA.out y
 unfold refs at hsn
 obtain ⟨l,hl⟩:∃ l,l = (nd σ y).left:=⟨_,rfl⟩
 obtain ⟨r,hr⟩:∃ r,r = (nd σ y).right:=⟨_,rfl⟩
 rw [← hl, ← hr] at hsn hsd
 have HSN:RowKit.Hid (((L.take (i + 1)).map fun y => refs (nd σ y) x).sum = ((L.take i).map fun y => refs (nd σ y) x).sum + ((if l = x then 1 else 0) + (if r = x then 1 else 0))):=Lib.hid hsn
 have HSX:=Lib.hid hsd
 have hw1:IntKind.i64.wrap ((m:Int) + 1) = (m:Int) + 1:=IntWalk.i64_in _ (by omega)
 have hw2:IntKind.i64.wrap ((m:Int) + 1 + 1) = (m:Int) + 1 + 1:=IntWalk.i64_in _ (by omega)
 clear hy q1 hsn hsd hl hr
 by_cases e1:l = x
 · by_cases e2:r = x
   · have HE:=HSN.out
     rw [if_pos e1,if_pos e2] at HE
     have HE:=Lib.hid HE
     go_wp2_with fail
     refine HSX.out.mono ?_; rintro e w2 ⟨rfl,a2⟩
     have A2:=Lib.hid (HA.out.trans a2 (fun _ => fEq))
     clear a2
     go_wp2
     go_roundg g
     case measure => omega
     exact ⟨i + 1,m + 1 + 1,by simp,by simp,by omega,by omega,Lib.hid (by have:=HE.out; have:=hs.out; omega),A2.out⟩
   have HE:=HSN.out
   rw [if_pos e1,if_neg e2] at HE
   have HE:=Lib.hid HE
   go_wp2_with fail
   refine HSX.out.mono ?_; rintro e w2 ⟨rfl,a2⟩
   have A2:=Lib.hid (HA.out.trans a2 (fun _ => fEq))
   clear a2
   go_wp2
   go_roundg g
   case measure => omega
   exact ⟨i + 1,m + 1,by simp,by simp,by omega,by omega,Lib.hid (by have:=HE.out; have:=hs.out; omega),A2.out⟩
 by_cases e2:r = x
 · have HE:=HSN.out
   rw [if_neg e1,if_pos e2] at HE
   have HE:=Lib.hid HE
   go_wp2_with fail
   refine HSX.out.mono ?_; rintro e w2 ⟨rfl,a2⟩
   have A2:=Lib.hid (HA.out.trans a2 (fun _ => fEq))
   clear a2
   go_wp2
   go_roundg g
   case measure => omega
   exact ⟨i + 1,m + 1,by simp,by simp,by omega,by omega,Lib.hid (by have:=HE.out; have:=hs.out; omega),A2.out⟩
 have HE:=HSN.out
 rw [if_neg e1,if_neg e2] at HE
 have HE:=Lib.hid HE
 go_wp2_with fail
 refine HSX.out.mono ?_; rintro e w2 ⟨rfl,a2⟩
 have A2:=Lib.hid (HA.out.trans a2 (fun _ => fEq))
 clear a2
 go_wp2
 go_roundg g
 case measure => omega
 exact ⟨i + 1,m,by simp,rfl,by omega,by omega,Lib.hid (by have:=HE.out; have:=hs.out; omega),A2.out⟩
theorem RLost_bad (h:ROw w0 w b σ G) (GG:Good σ) (cap:Nat) (hR:IntsAt w ao R) (hl:R.length < 4611686018427387904) (hc:chk σ R ≠ 0) :
 Calls Tryz.prog 55 #[.pointer (some ⟨b,0,none⟩),.slice ao R.length cap] w fun e w' => e = .returned (.tuple #[.slice none 0 0,.int .i64 (chk σ R)]) ∧ Adds w w':=by
 have hk:=RReached_bad h GG cap hR hl hc
 obtain ⟨c,hcc⟩:∃ c,c = chk σ R:=⟨_,rfl⟩
 rw [← hcc] at hk hc ⊢
 obtain ⟨n,hn⟩:∃ n,n = R.length:=⟨_,rfl⟩
 rw [← hn] at hk ⊢
 have HK:=Lib.hid hk
 have hcb:(c != 0) = true:=by simpa using hc
 clear hk hcc hn hR h hl hc
 go_enter Tryz.func55,Tryz.ntmps55
 go_wp2_with fail
 refine HK.out.mono ?_; rintro e w1 ⟨rfl,a1⟩
 have A1:=Lib.hid a1
 clear a1
 go_wp2
 go_ret2
 exact ⟨rfl,A1.out⟩
theorem RShared_bad (h:ROw w0 w b σ G) (GG:Good σ) (cap:Nat) (hR:IntsAt w ao R) (hl:R.length < 4611686018427387904) (hc:chk σ R ≠ 0) :
 Calls Tryz.prog 47 #[.pointer (some ⟨b,0,none⟩),.slice ao R.length cap] w fun e w' => e = .returned (.tuple #[.int .i64 0,.int .i64 (chk σ R)]) ∧ Adds w w':=by
 have hk:=RReached_bad h GG cap hR hl hc
 obtain ⟨c,hcc⟩:∃ c,c = chk σ R:=⟨_,rfl⟩
 rw [← hcc] at hk hc ⊢
 obtain ⟨n,hn⟩:∃ n,n = R.length:=⟨_,rfl⟩
 rw [← hn] at hk ⊢
 have HK:=Lib.hid hk
 have hcb:(c != 0) = true:=by simpa using hc
 clear hk hcc hn hR h hl hc
 go_enter Tryz.func47,Tryz.ntmps47
 go_wp2_with fail
 refine HK.out.mono ?_; rintro e w1 ⟨rfl,a1⟩
 have A1:=Lib.hid a1
 clear a1
 go_wp2
 go_ret2
 exact ⟨rfl,A1.out⟩
theorem RCheck_bad (h:ROw w0 w b σ G) (GG:Good σ) (cap:Nat) (hR:IntsAt w ao R) (hl:R.length < 4611686018427387904) (hc:chk σ R ≠ 0) :
 Calls Tryz.prog 43 #[.pointer (some ⟨b,0,none⟩),.slice ao R.length cap] w fun e w' => e = .returned (.tuple #[.slice none 0 0,.int .i64 (chk σ R)]) ∧ Adds w w':=by
 have hk:=RReached_bad h GG cap hR hl hc
 obtain ⟨c,hcc⟩:∃ c,c = chk σ R:=⟨_,rfl⟩
 rw [← hcc] at hk hc ⊢
 obtain ⟨n,hn⟩:∃ n,n = R.length:=⟨_,rfl⟩
 rw [← hn] at hk ⊢
 have HK:=Lib.hid hk
 have hcb:(c != 0) = true:=by simpa using hc
 clear hk hcc hn hR h hl hc
 go_enter Tryz.func43,Tryz.ntmps43
 go_wp2_with fail
 refine HK.out.mono ?_; rintro e w1 ⟨rfl,a1⟩
 have A1:=Lib.hid a1
 clear a1
 go_wp2
 go_ret2
 exact ⟨rfl,A1.out⟩
def lostI (S:List Int) (l:List Nat):List Int:=(l.filter fun n:Nat => decide ((n:Int) ∉ S)).map fun n:Nat => (n:Int)
omit w0 w b σ G ao lo R L in
theorem lostI_snoc (S:List Int) (l:List Nat) (n:Nat):lostI S (l ++ [n]) = lostI S l ++ (if (n:Int) ∈ S then [] else [(n:Int)]):=by
 unfold lostI
 rw [List.filter_append,List.map_append]
 congr 1
 by_cases e:(n:Int) ∈ S
 · simp [e]
 simp [e]
omit w0 w b σ G ao lo R L in
theorem lostI_len (S:List Int) (l:List Nat):(lostI S l).length ≤ l.length:=by
 unfold lostI
 rw [List.length_map]
 exact List.length_filter_le _ _
theorem RLost_good (h:ROw w0 w b σ G) (GG:Good σ) (cap:Nat) (hR:IntsAt w ao R) (hc:chk σ R = 0) :
 Calls Tryz.prog 55 #[.pointer (some ⟨b,0,none⟩),.slice ao R.length cap] w fun e w' => ∃ v k,e = .returned (.tuple #[v,.int .i64 0]) ∧ Wanting σ R k.todo.length k ∧ MetAt w w' v (lostL k.cnt (handles σ)):=by
 have hk:=RReached_good h GG cap hR hc
 obtain ⟨n,hn⟩:∃ n,n = R.length:=⟨_,rfl⟩
 rw [← hn] at hk ⊢
 have hhd:=fun w1 (a:Adds w w1) => (h.adds a).handles GG
 have hhs:(handles σ).length ≤ 65536:=handles_le GG
 obtain ⟨L,hL⟩:∃ L,L = (handles σ).length:=⟨_,rfl⟩
 rw [← hL] at hhs hhd
 have HK:=(hIq hk (aIq hhd hL))
 clear hk hhd hR hn h GG hc hL
 go_enter Tryz.func55,Tryz.ntmps55
 go_wp2_with fail
 refine HK.out.1.mono ?_; rintro e w1 ⟨v,k,rfl,hW,hM⟩
 obtain ⟨⟨q,qc,rfl,own⟩,hA⟩:=hM
 have hI:=(IntsAt.own own).1
 have hrl:=reachI_len k.todo (handles σ)
 obtain ⟨S,hS⟩:∃ S,S = reachI k.todo (handles σ):=⟨_,rfl⟩
 rw [← hS] at hI hrl ⊢
 obtain ⟨sl,hsl⟩:∃ sl,sl = S.length:=⟨_,rfl⟩
 have hsl6:sl ≤ 65536:=by have:=HK.out.2.2; omega
 rw [← hsl] at ⊢
 have H1:=(hIq hA (aIq hI (aIq hsl (aIq hW hS))))
 have HHD:=Lib.hid (HK.out.2.1 _ hA)
 clear own hI hA hrl hS hsl hW
 go_wp2_with fail
 refine HHD.out.mono ?_; rintro e w3 ⟨v3,rfl,o3,a3⟩
 obtain ⟨vo,vc,rfl⟩:=owns_form o3
 have hi3:IntsAt w3 vo ((handles σ).map fun n:Nat => (n:Int)):=by
  have:ints (handles σ) = intL ((handles σ).map fun n:Nat => (n:Int)):=by simp [ints,intL,List.map_map]
  rw [this] at o3
  exact (IntsAt.own o3).1
 have H3:=(hIq hi3 (aIq (H1.out.2.1.adds a3) (H1.out.1.trans a3 (fun _ => fEq))))
 clear hi3 o3 a3 HHD
 go_wp2
 go_loopg [8,10] L (fun g s8 s10 wr => ∃ i:Nat,s10 = .int .i64 i ∧ i + g = L ∧ MetAt w3 wr s8 (lostI S ((handles σ).take i)))
 case atStart => exact ⟨0,rfl,by omega,⟨⟨none,0,rfl,World.ownsRow_nil _ _ _ _⟩,Ch.refl _ _⟩⟩
 obtain ⟨i3,rfl,hi3,hM3⟩:=hrel
 obtain ⟨⟨q3,qc3,rfl,hown3⟩,hA4⟩:=hM3
 have hr3:=lostI_len S ((handles σ).take i3)
 rw [List.length_take] at hr3
 obtain ⟨l3,hl3⟩:∃ l3,l3 = (lostI S ((handles σ).take i3)).length:=⟨_,rfl⟩
 have hl36:l3 ≤ 65536:=by have:=HK.out.2.2; omega
 have HM3:=(hIq (show MetAt w3 wr (.slice q3 (lostI S ((handles σ).take i3)).length qc3) (lostI S ((handles σ).take i3)) from ⟨⟨q3,qc3,rfl,hown3⟩,hA4⟩) hA4)
 rw [← hl3] at HM3 ⊢
 have HL3:=Lib.hid hl3
 clear hown3 hA4 hl3 hr3
 by_cases hi3n:i3 = L
 · subst hi3n
   have hlt3:¬ (i3:Int) < (i3:Int):=by omega
   clear hi3
   go_wp2
   go_ret2
   refine ⟨_,rfl,k,H1.out.2.2.2.1,?_⟩
   have:=HM3.out.1
   rw [List.take_of_length_le (Nat.le_of_eq HK.out.2.2.symm),H1.out.2.2.2.2] at this
   rw [lost_same H1.out.2.2.2.1]
   exact this.base H3.out.2.2
 have hlt3:(i3:Int) < (L:Int):=by omega
 have hlt3':i3 < L:=by omega
 obtain ⟨g,rfl⟩:∃ g,gk = g + 1:=⟨gk - 1,by omega⟩
 obtain ⟨x,hx⟩:∃ x,(handles σ)[i3]? = some x:=⟨_,List.getElem?_eq_getElem (by have:=HK.out.2.2; omega)⟩
 obtain ⟨g1,o1,rfl,q1⟩:=H3.out.1 i3 (x:Int) (by rw [List.getElem?_map,hx]; rfl)
 have hin:=fun w1 (a:Adds wr w1) => RIn_ok qc (H3.out.2.1.adds (HM3.out.2.trans a (fun _ => fEq))) H1.out.2.2.1.symm (by omega) (x:Int)
 have q1':=HM3.out.2.cell q1 id
 have hsn:(handles σ).take (i3 + 1) = (handles σ).take i3 ++ [x]:=by rw [List.take_add_one,hx]; rfl
 have hstep:=lostI_snoc S ((handles σ).take i3) x
 rw [← hsn] at hstep
 have HIN:=Lib.hid hin
 have HST:=Lib.hid hstep
 have HQ1:RowKit.Hid (∀ w1,Adds wr w1 → w1.cell? ⟨g1,o1 + i3,none⟩ = some (.int .i64 (x:Int))):=Lib.hid (fun w1 a => a.cell q1' id)
 clear hx q1 hin hsn hstep
 by_cases hm:(x:Int) ∈ S
 · have hmb:decide ((x:Int) ∈ S) = true:=decide_eq_true hm
   have HSE:=HST.out
   rw [if_pos hm,List.append_nil] at HSE
   have HSE:=Lib.hid HSE
   have hin2:=HIN.out wr (Ch.refl _ _)
   rw [hmb] at hin2
   have HI2:=Lib.hid hin2
   clear hm hmb hin2 HIN
   go_wp2_with fail
   refine HI2.out.mono ?_; rintro e w4 ⟨rfl,a4⟩
   have hm4:=Lib.hid (HM3.out.1.adds a4)
   clear a4 q1'
   go_wp2
   go_roundg g
   case measure => omega
   exact ⟨i3 + 1,by simp,by omega,by rw [HSE.out]; exact hm4.out⟩
 have hmb:decide ((x:Int) ∈ S) = false:=decide_eq_false hm
 have HSE:=HST.out
 rw [if_neg hm] at HSE
 have HSE:=Lib.hid HSE
 have hin2:=HIN.out wr (Ch.refl _ _)
 rw [hmb] at hin2
 have HI2:=Lib.hid hin2
 clear hm hmb hin2 HIN
 go_wp2_with fail
 refine HI2.out.mono ?_; rintro e w4 ⟨rfl,a4⟩
 have q2':=HQ1.out _ a4
 have hm4:=Lib.hid (HM3.out.1.adds a4)
 clear a4 q1'
 go_wp2_with (first
  | fail
  | (at_builtin; refine wp_met rfl _ _ rfl _ (lostI S ((handles σ).take i3)) rfl (x:Int) hm4.out (by rw [← HL3.out]; omega) rfl ?_; intro v' w5 hm5))
 go_roundg g
 case measure => omega
 exact ⟨i3 + 1,by simp,by omega,by rw [HSE.out]; exact hm5⟩
theorem RShared_good (h:ROw w0 w b σ G) (GG:Good σ) (cap:Nat) (hR:IntsAt w ao R) (hc:chk σ R = 0) :
 Calls Tryz.prog 47 #[.pointer (some ⟨b,0,none⟩),.slice ao R.length cap] w fun e w' => ∃ k,e = .returned (.tuple #[.int .i64 ((k.todo.filter fun x => decide (1 < k.cnt x)).length:Nat),.int .i64 0]) ∧ Wanting σ R k.todo.length k ∧ Adds w w':=by
 have hk:=RReached_good h GG cap hR hc
 obtain ⟨hl64,_⟩:=chk_there hc
 obtain ⟨n,hn⟩:∃ n,n = R.length:=⟨_,rfl⟩
 rw [← hn] at hk hl64 ⊢
 have hhs:(handles σ).length ≤ 65536:=handles_le GG
 have HK:=(hIq hk (aIq hhs (aIq h (aIq GG (aIq hR hn)))))
 clear hk hhs hR hn h GG hc
 go_enter Tryz.func47,Tryz.ntmps47
 go_wp2_with fail
 refine HK.out.1.mono ?_; rintro e w1 ⟨v,k,rfl,hW,hM⟩
 obtain ⟨⟨q,qc,rfl,own⟩,hA⟩:=hM
 have hI:=(IntsAt.own own).1
 have hrl:=reachI_len k.todo (handles σ)
 have hss:=shared_same hW
 obtain ⟨S,hS⟩:∃ S,S = reachI k.todo (handles σ):=⟨_,rfl⟩
 rw [← hS] at hI hrl hss ⊢
 obtain ⟨sl,hsl⟩:∃ sl,sl = S.length:=⟨_,rfl⟩
 have hsl6:sl ≤ 65536:=by have:=HK.out.2.1; omega
 rw [← hsl] at ⊢
 have hwt:=fun w2 (a:Adds w1 w2) x => RWant_ok (HK.out.2.2.1.adds (hA.trans a (fun _ => fEq))) HK.out.2.2.2.1 qc cap (hI.adds a) hsl.symm hsl6 (HK.out.2.2.2.2.1.adds (hA.trans a (fun _ => fEq))) HK.out.2.2.2.2.2.symm hl64 x
 have H1:=(hIq hA (aIq hI (aIq hsl (aIq hW (aIq hwt hss)))))
 clear own hI hA hrl hS hsl hW hwt hss
 go_wp2
 go_loopg [8,9] sl (fun g s8 s9 wr => ∃ (i m:Nat),s9 = .int .i64 i ∧ s8 = .int .i64 m ∧ i + g = sl ∧ m ≤ i ∧ RowKit.Hid (m = ((S.take i).filter fun x => decide (1 < wantL σ S R x)).length) ∧ Adds w1 wr)
 case atStart => exact ⟨0,0,rfl,rfl,by omega,by omega,Lib.hid (by simp),Ch.refl _ _⟩
 obtain ⟨i,m,rfl,rfl,hi,hm,hs,hA⟩:=hrel
 have HA:=Lib.hid hA
 clear hA
 by_cases hin:i = sl
 · subst hin
   have hlt:¬ (i:Int) < (i:Int):=by omega
   clear hi
   go_wp2
   go_ret2
   have hfin:m = (k.todo.filter fun x => decide (1 < k.cnt x)).length:=by
    rw [H1.out.2.2.2.2.2,hs.out,List.take_of_length_le (Nat.le_of_eq H1.out.2.2.1.symm)]
   exact ⟨k,by rw [← hfin]; rfl,H1.out.2.2.2.1,H1.out.1.trans HA.out (fun _ => fEq)⟩
 have hlt:(i:Int) < (sl:Int):=by omega
 have hlt':i < sl:=by omega
 obtain ⟨g,rfl⟩:∃ g,gk = g + 1:=⟨gk - 1,by omega⟩
 obtain ⟨x,hx⟩:∃ x,S[i]? = some x:=⟨_,List.getElem?_eq_getElem (by have:=H1.out.2.2.1; omega)⟩
 obtain ⟨g1,o1,rfl,q1⟩:=H1.out.2.1 i x hx
 have q1':=HA.out.cell q1 id
 have hwt:=H1.out.2.2.2.2.1 wr HA.out x
 obtain ⟨f,hf⟩:∃ f,f = wantL σ S R x:=⟨_,rfl⟩
 rw [← hf] at hwt
 have HWT:=Lib.hid hwt
 have HF:=(hIq hf hx)
 have hw2:IntKind.i64.wrap ((m:Int) + 1) = (m:Int) + 1:=IntWalk.i64_in _ (by omega)
 clear hx q1 hwt hf
 have hsn:(S.take (i + 1)).filter (fun x => decide (1 < wantL σ S R x)) = (S.take i).filter (fun x => decide (1 < wantL σ S R x)) ++ (if 1 < f then [x] else []):=by
  rw [List.take_add_one,HF.out.2,Option.toList_some,List.filter_append,HF.out.1]
  congr 1
  by_cases e:1 < wantL σ S R x <;> simp [e]
 have HSN:=Lib.hid hsn
 clear hsn
 by_cases e:1 < f
 · have e1:(1:Int) < (f:Int):=by omega
   have HE:=HSN.out
   rw [if_pos e] at HE
   have HE:=Lib.hid HE
   go_wp2_with fail
   refine HWT.out.mono ?_; rintro e w2 ⟨rfl,a2⟩
   have A2:=Lib.hid (HA.out.trans a2 (fun _ => fEq))
   clear a2
   go_wp2
   go_roundg g
   case measure => omega
   exact ⟨i + 1,m + 1,by simp,by simp,by omega,by omega,Lib.hid (by rw [HE.out,hs.out,List.length_append]; rfl),A2.out⟩
 have e1:¬ (1:Int) < (f:Int):=by omega
 have HE:=HSN.out
 rw [if_neg e,List.append_nil] at HE
 have HE:=Lib.hid HE
 go_wp2_with fail
 refine HWT.out.mono ?_; rintro e w2 ⟨rfl,a2⟩
 have A2:=Lib.hid (HA.out.trans a2 (fun _ => fEq))
 clear a2
 go_wp2
 go_roundg g
 case measure => omega
 exact ⟨i + 1,m,by simp,rfl,by omega,by omega,Lib.hid (by rw [HE.out,hs.out]),A2.out⟩
end
end Go.Proofs.YtmeglndnkdgkoaaGreat.Store
namespace Go.Proofs.YtmeglndnkdgkoaaGreat
open Go.RowKit
section
variable {P : Program} {Q : Exit → Act → World → Prop} {md : Region.Mode} {S : World → Prop}
def wpPlanF (P:Program) (l:List Oper) (Q:Exit → Act → World → Prop) (f:Nat) (S:World → Prop) (n:Nat):List (Nat × Bool) → Act → World → Prop
 | [],a,w => wpOp P l.toArray Q f (fun a' w' => S w' ∧ wpPlan P l Q S n [] a' w') a w
 | (i,false) :: r,a,w => ∃ o v,l[i]? = some o ∧ YieldsIf P l.toArray S o v a ∧ wpPlanF P l Q f S n r (a.put o.dst v) w
 | (i,true) :: r,a,w => wpOp P l.toArray Q i (fun a' w' => S w' ∧ wpPlanF P l Q f S n r a' w') a w ∧ wpOp P l.toArray Q f (fun a' w' => S w' ∧ wpPlan P l Q S n ((i,true) :: r) a' w') a w
def planFB (md:Region.Mode) (ops:Array Oper) (f n:Nat):List (Nat × Bool) → Array Bool → Bool
 | [],listed => decide (f < n) && decide (Region.ready md ops listed = [f]) && planB md ops n [] (listed.setIfInBounds f true)
 | (i,false) :: r,listed => decide (i < n) && (Region.ready md ops listed).contains i && Region.free md ops listed i && planFB md ops f n r (listed.setIfInBounds i true)
 | (i,true) :: r,listed => decide (i < n) && decide (f < n) && (decide (Region.ready md ops listed = [i,f]) || decide (Region.ready md ops listed = [f,i])) && planFB md ops f n r (listed.setIfInBounds i true) && planB md ops n ((i,true) :: r) (listed.setIfInBounds f true)
def regionFB (md:Region.Mode) (ops:Array Oper) (f n:Nat) (p:List (Nat × Bool)):Bool :=
 Region.noSelect ops && decide (p.length + 1 = n) && decide (n ≤ ops.size) && tailB md ops n && planFB md ops f n p (Array.replicate ops.size false)
theorem wpOp_of_list {l:List Oper} {i:Nat} {a:Act} {w:World} {o:Oper} {K:Act → World → Prop} (ho:l[i]? = some o) (h:wpList P l.toArray (Exit.then K Q) [o] a w):wpOp P l.toArray Q i K a w:=by
 have ho':l.toArray[i]? = some o:=by simpa using ho
 unfold wpOp
 simp only [ho']
 unfold wpList at h
 split
 · rename_i hw
   rw [if_pos hw] at h
   refine h.imp (fun h => ?_) id
   unfold Oper.wp at h ⊢
   generalize (execOp a.eval o).run P w = r at h ⊢
   cases r with
   | ok nx w' =>
    cases nx <;> simp only [Oper.upon,wpList,Exit.then] at h ⊢ <;>
     first
      | exact h
      | exact Calls.mono h (fun e w'' he => by cases e <;> exact he)
   | halt x w' => cases x <;> simp only [Oper.upon,Exit.then] at h ⊢ <;> exact h
 rename_i hw
 rw [if_neg hw] at h
 exact h
end
section
variable {P : Program} {Q : Exit → Act → World → Prop} {md : Region.Mode} {S : World → Prop} {q : List (Nat × Bool)}
def wpPlanG (P:Program) (l:List Oper) (Q:Exit → Act → World → Prop) (f:Nat) (S:World → Prop) (n:Nat) (q:List (Nat × Bool)):List (Nat × Bool) → Act → World → Prop
 | [],a,w => wpOp P l.toArray Q f (fun a' w' => S w' ∧ wpPlan P l Q S n q a' w') a w
 | (i,false) :: r,a,w => ∃ o v,l[i]? = some o ∧ YieldsIf P l.toArray S o v a ∧ wpPlanG P l Q f S n q r (a.put o.dst v) w
 | (i,true) :: r,a,w => wpOp P l.toArray Q i (fun a' w' => S w' ∧ wpPlanG P l Q f S n q r a' w') a w ∧ wpOp P l.toArray Q f (fun a' w' => S w' ∧ wpPlan P l Q S n ((i,true) :: (r ++ q)) a' w') a w
def planGB (md:Region.Mode) (ops:Array Oper) (f n:Nat) (q:List (Nat × Bool)):List (Nat × Bool) → Array Bool → Bool
 | [],listed => decide (f < n) && decide (Region.ready md ops listed = [f]) && planB md ops n q (listed.setIfInBounds f true)
 | (i,false) :: r,listed => decide (i < n) && (Region.ready md ops listed).contains i && Region.free md ops listed i && planGB md ops f n q r (listed.setIfInBounds i true)
 | (i,true) :: r,listed => decide (i < n) && decide (f < n) && (decide (Region.ready md ops listed = [i,f]) || decide (Region.ready md ops listed = [f,i])) && planGB md ops f n q r (listed.setIfInBounds i true) && planB md ops n ((i,true) :: (r ++ q)) (listed.setIfInBounds f true)
def regionGB (md:Region.Mode) (ops:Array Oper) (f n:Nat) (q p:List (Nat × Bool)):Bool :=
 Region.noSelect ops && decide (q.length + 1 + p.length = n) && decide (n ≤ ops.size) && tailB md ops n && planGB md ops f n q p (Array.replicate ops.size false)
theorem wpHeadG_of_plan {l:List Oper} {f n:Nat} (hsel:Region.noSelect l.toArray = true) (ht:tailB md l.toArray n = true) (hQ:∀ c a a' w,Q (.panic c) a' w → Q (.panic c) a w) :
 ∀ (p:List (Nat × Bool)) (listed:Array Bool) (a:Act) (w:World),planGB md l.toArray f n q p listed = true → HeadInv md l.toArray n listed → S w → wpPlanG P l Q f S n q p a w →
 wpHead P md l.toArray Q S n (fun listed a w => Region.seqB md l.toArray (l.toArray.size - n) n listed = true ∧ wpList P l.toArray Q (l.drop n) a w) (q.length + 1 + p.length) listed a w
 | [],listed,a,w,hB,inv,hS,h => by
  simp only [planGB,Bool.and_eq_true,decide_eq_true_eq] at hB
  obtain ⟨⟨hfn,hr⟩,hB'⟩:=hB
  refine ⟨by rw [hr]; simp,fun j hj => ?_⟩
  have hjf:j = f:=by rw [hr] at hj; simpa using hj
  subst hjf
  exact ⟨hfn,wpOp_mono (fun a' w' h' => ⟨h'.1,wpHead_of_plan hsel ht hQ q _ a' w' hB' (inv.set hj hfn) h'.1 h'.2⟩) h⟩
 | (i,false) :: r,listed,a,w,hB,inv,hS,h => by
  simp only [planGB,Bool.and_eq_true,decide_eq_true_eq] at hB
  obtain ⟨⟨⟨hin,hr⟩,hf⟩,hB'⟩:=hB
  obtain ⟨o,v,ho,hy,h'⟩:=h
  have hr':i ∈ Region.ready md l.toArray listed:=by simpa using hr
  have ho':l.toArray[i]? = some o:=by simpa using ho
  exact wpHead_first ho' (Region.noSelect_spec hsel) (fun c a w => hQ c _ _ w) ht hin (fun listed a w hL => seqB_ready hL.1) (q.length + 1 + r.length) listed a w inv (Region.free_spec ho' hf) hr' hy hS
   (wpHeadG_of_plan hsel ht hQ r _ _ w hB' (inv.set hr' hin) hS h')
 | (i,true) :: r,listed,a,w,hB,inv,hS,h => by
  simp only [planGB,Bool.and_eq_true,decide_eq_true_eq,Bool.or_eq_true] at hB
  obtain ⟨⟨⟨⟨hin,hfn⟩,hr⟩,hB1⟩,hB2⟩:=hB
  have hmem:∀ j,j ∈ Region.ready md l.toArray listed ↔ j = i ∨ j = f:=fun j => by
   rcases hr with hr | hr
   · rw [hr]; simp
   rw [hr]; simp [or_comm]
  refine ⟨fun h0 => ?_,fun j hj => ?_⟩
  · have:=(hmem i).2 (.inl rfl)
    rw [h0] at this
    cases this
  rcases (hmem j).1 hj with e | e
  · subst e
    exact ⟨hin,wpOp_mono (fun a' w' h' => ⟨h'.1,wpHeadG_of_plan hsel ht hQ r _ a' w' hB1 (inv.set hj hin) h'.1 h'.2⟩) h.1⟩
  subst e
  have hlen:q.length + 1 + r.length = ((i,true) :: (r ++ q)).length:=by simp; omega
  refine ⟨hfn,wpOp_mono (fun a' w' h' => ⟨h'.1,?_⟩) h.2⟩
  show wpHead P md l.toArray Q S n _ (q.length + 1 + r.length) _ _ _
  rw [hlen]
  exact wpHead_of_plan hsel ht hQ ((i,true) :: (r ++ q)) _ a' w' hB2 (inv.set hj hfn) h'.1 h'.2
theorem wp_region_planG {id:Nat} {a:Act} {w:World} {l:List Oper} (f:Nat) (S:World → Prop) (n:Nat) (p q:List (Nat × Bool)) (hm:P.follows .mixedOrders = true)
 (hB:regionGB .any l.toArray f n q p = true) (hS:S w.drew) (h:wpPlanG P l (NoPanic Q) f S n q p a w.drew):(Code.region id l.toArray true).wp P Q a w:=by
 refine wp_region_noPanic ?_
 have hQ:∀ c a a' w,NoPanic Q (.panic c) a' w → NoPanic Q (.panic c) a w:=fun _ _ _ _ h => h.elim
 simp only [regionGB,Bool.and_eq_true,decide_eq_true_eq] at hB
 obtain ⟨⟨⟨⟨hsel,hlen⟩,hn⟩,ht⟩,hp⟩:=hB
 have inv0:HeadInv .any l.toArray n (Array.replicate l.toArray.size false) :=
  ⟨by simp,fun j oj _ hl => (by rw [getD_replicate_false] at hl; cases hl),fun t _ ht => getD_in (by simpa using ht) (getD_replicate_false _ _)⟩
 have H:=wpHeadG_of_plan (md:=.any) hsel ht hQ p _ a _ hp inv0 hS h
 refine wp_region_any hm ?_
 have:=wpAny_of_wpHead (g:=l.toArray.size - n) (fun listed a' w' hL => by
  have hdl:(l.drop n).length = l.toArray.size - n:=by simp
  have:=wpAny_of_seq (md:=.any) (Q':=NoPanic Q) (l.drop n) n listed a' w' (fun j => by simp [List.getElem?_drop]) (by rw [hdl]; exact hL.1) hL.2
  rwa [hdl] at this) _ _ _ _ H
 rw [hlen,show n + (l.toArray.size - n) = l.toArray.size by omega] at this
 exact this
theorem planG_look {l:List Oper} {f n i:Nat} {r:List (Nat × Bool)} {a:Act} {w:World} {o:Oper} {v:Value} (ho:l[i]? = some o) (hw:Region.wanted o (yielded l.toArray a.tmps) = true)
 (hy:∀ w0,S w0 → (execOp a.eval o).run P w0 = .ok (.value v) w0) (h:wpPlanG P l Q f S n q r (a.put o.dst v) w):wpPlanG P l Q f S n q ((i,false) :: r) a w :=
 ⟨o,v,ho,.inl ⟨hw,hy⟩,h⟩
theorem planG_do {l:List Oper} {f n i:Nat} {r:List (Nat × Bool)} {a:Act} {w:World} {o of:Oper} (ho:l[i]? = some o) (hof:l[f]? = some of)
 (h:wpList P l.toArray (Exit.then (fun a' w' => S w' ∧ wpPlanG P l Q f S n q r a' w') Q) [o] a w) (h2:wpList P l.toArray (Exit.then (fun a' w' => S w' ∧ wpPlan P l Q S n ((i,true) :: (r ++ q)) a' w') Q) [of] a w):wpPlanG P l Q f S n q ((i,true) :: r) a w :=
 ⟨wpOp_of_list ho h,wpOp_of_list hof h2⟩
theorem planG_last {l:List Oper} {f n:Nat} {a:Act} {w:World} {of:Oper} (hof:l[f]? = some of)
 (h2:wpList P l.toArray (Exit.then (fun a' w' => S w' ∧ wpPlan P l Q S n q a' w') Q) [of] a w):wpPlanG P l Q f S n q [] a w:=wpOp_of_list hof h2
end
end Go.Proofs.YtmeglndnkdgkoaaGreat

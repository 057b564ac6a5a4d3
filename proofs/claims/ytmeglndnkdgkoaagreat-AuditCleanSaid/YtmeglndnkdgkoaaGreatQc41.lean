/- Laws of the layers below. -/
import Derived.Test.YtmeglndnkdgkoaaGreatQc40
set_option maxHeartbeats 3200000
set_option maxRecDepth 100000
set_option linter.unusedVariables false
namespace Go.Proofs.YtmeglndnkdgkoaaGreat.Store
open Go.RowKit Go.Proofs.YtmeglndnkdgkoaaGreat.ShaW Go.Proofs.YtmeglndnkdgkoaaGreat.Path Go.Proofs.YtmeglndnkdgkoaaGreat.Law9
theorem fdL_get:∀ {l:List (Int × Int × Int)} {i:Nat} {x:Int × Int × Int},l[i]? = some x → (fdL l)[i * 3 + 1]? = some (.int .i64 x.2.1) ∧ (fdL l)[i * 3 + 2]? = some (.int .i64 x.2.2)
 | [],i,x,h => by simp at h
 | y :: l,0,x,h => by
  obtain rfl:y = x:=by simpa using h
  exact ⟨rfl,rfl⟩
 | y :: l,i + 1,x,h => by
  have ih:=fdL_get (l:=l) (i:=i) (x:=x) (by simpa using h)
  have e:fdL (y :: l) = [.int .i64 y.1,.int .i64 y.2.1,.int .i64 y.2.2] ++ fdL l:=rfl
  rw [e,List.getElem?_append_right (by simp; omega),List.getElem?_append_right (by simp; omega)]
  simp only [List.length_cons,List.length_nil]
  rw [show (i + 1) * 3 + 1 - (0 + 1 + 1 + 1) = i * 3 + 1 by omega,show (i + 1) * 3 + 2 - (0 + 1 + 1 + 1) = i * 3 + 2 by omega]
  exact ih
def rootsOf (root:Int) (A:List (Int × Ents)):List Int:=firsts A ++ (if root = 0 then [] else [root])
section
variable {σ : SlabSt Nd} {root : Int} {L : Ents} {A : List (Int × Ents)} {n i : Nat}
theorem rootsOf_count (k:Int) (hk:k ≠ 0):(rootsOf root A).count k = (((root,L) :: A).map Prod.fst).count k:=by
 unfold rootsOf firsts
 rw [List.count_append,List.map_cons,List.count_cons]
 by_cases h0:root = 0
 · subst h0
   rw [if_pos rfl,List.count_nil,if_neg (by simp; exact fun e => hk e.symm)]
 rw [if_neg h0]
 by_cases e:root = k
 · subst e; simp
 simp [e]
theorem Sce.says (P:Sce σ root L A n i):Says σ (rootsOf root A):=P.roots.says (fun k hk => rootsOf_count k hk)
theorem Sce.rootsOf_mem (P:Sce σ root L A n i) {r:Int} (hr:r ∈ rootsOf root A):∃ L',(r,L') ∈ (root,L) :: A ∧ r ≠ 0:=by
 unfold rootsOf firsts at hr
 rcases List.mem_append.1 hr with hr | hr
 · obtain ⟨p,hp,rfl⟩:=List.mem_map.1 hr
   exact ⟨p.2,List.mem_cons_of_mem _ hp,P.nz p hp⟩
 by_cases h0:root = 0
 · rw [if_pos h0] at hr; cases hr
 rw [if_neg h0] at hr
 obtain rfl:=List.mem_singleton.1 hr
 exact ⟨L,List.mem_cons_self ..,h0⟩
theorem Sce.rootsOf_len (P:Sce σ root L A n i):(rootsOf root A).length ≤ 10:=by
 have:=P.len
 unfold rootsOf firsts
 rw [List.length_append,List.length_map]
 split <;> simp <;> omega
theorem Sce.chk (P:Sce σ root L A n i) {l:List Int} (hl:l.Sublist (rootsOf root A)):Store.chk σ l = 0:=by
 have h1:=hl.length_le
 have h2:=P.rootsOf_len
 unfold Store.chk
 rw [if_neg (by omega)]
 refine rerr_zero.2 fun x hx => ?_
 obtain ⟨L',hm,_⟩:=P.rootsOf_mem (hl.subset hx)
 exact rootErr_hand (P.roots.db hm).hand
theorem Sce.leaves (P:Sce σ root L A n i) {r:Int} {L':Ents} (hm:(r,L') ∈ (root,L) :: A) (hn:n ≤ 5000):(tree 256 L').leaves ≤ 4096:=by
 have h1:=nodes_leaves (tree 256 L')
 have h2:(tree 256 L').nodes ≤ live σ:=nodes_live P.roots.good (P.roots.rep _ hm)
 have h3:=live_le σ
 have h4:=P.roots.good.sound.wf.len
 have h5:=P.room
 omega
theorem says_none (S:Says σ []):σ.used = 0:=by
 rw [S.good.used, ← handles_length]
 cases hh:handles σ with
 | nil => rfl
 | cons x l =>
  exfalso
  have hx:=handles_has (σ:=σ) (n:=x) (by rw [hh]; exact List.mem_cons_self ..)
  obtain ⟨y,hy⟩:=has_get hx
  have hall:∀ (r:Nat) (h:Int) (x:Nd × Nat),σ.get? h = some x → rank x.1 < r → False:=by
   intro r
   induction r with
   | zero => intro h x hx hr; have:=(rank_bounds S.good hx).1; omega
   | succ r ih =>
    intro h x hx hrk
    rcases sound_parent S.good.sound hx with h1 | ⟨p,y,hy,hlr,hrank⟩
    · have:=S.mem _ h1; cases this
    exact ih p y hy (by omega)
  exact hall 257 _ y hy (by have:=(rank_bounds S.good hy).2; omega)
end
structure RootsOk (σ:SlabSt Nd) (R:List Int):Prop where
 says:Says σ R
 chk:∀ l:List Int,l.Sublist R → Store.chk σ l = 0
 each:∀ r ∈ R,∃ t,Rep (sk σ) r 0 t ∧ rootErr σ r = 0 ∧ t.leaves ≤ 4096
theorem Sce.rootsOk {σ:SlabSt Nd} {root:Int} {L:Ents} {A:List (Int × Ents)} {n i:Nat} (P:Sce σ root L A n i) (hn:n ≤ 5000):RootsOk σ (rootsOf root A) :=
 ⟨P.says,fun l hl => P.chk hl,fun r hr => by
  obtain ⟨L',hm,_⟩:=P.rootsOf_mem hr
  exact ⟨_,P.roots.rep _ hm,rootErr_hand (P.roots.db hm).hand,P.leaves hm hn⟩⟩
section
variable {w : World}
theorem clean_law (room:Int) {ao:Option Addr} {len:Nat} (cap:Nat) (ha:Law9.ActsAt w ao len) (out:Int) :
 Calls Tryz.prog 12 #[.int .i64 room,.slice ao len cap,.int .i64 out] w fun e w' => e = .returned (.bool true) ∧ Adds w w':=by
 have HAW:=Lib.hid (Law12.awake_ok w)
 have HA:=Lib.hid ha
 clear ha
 go_enter Tryz.func12,Tryz.ntmps12
 go_wp2_with fail
 refine HAW.out.mono ?_; rintro e w1 ⟨rfl,a1⟩
 have hL:=Large_ok room cap (HA.out.keep a1 (fun _ => fEq))
 unfold LargeRet at hL
 have HL:=Lib.hid hL
 have A1:=Lib.hid a1
 clear hL a1 HAW
 go_wp2_with fail
 refine HL.out.mono ?_; rintro e w1 ⟨B,rfl,rfl,hB⟩
 cases B with
 | true =>
  clear hB
  go_wp2
  go_ret
  exact ⟨rfl,A1.out⟩
 | false =>
  by_cases hv:8 < len
  · have hvi:(8:Int) < (len:Int):=by omega
    clear hB
    go_wp2
    go_ret
    exact ⟨rfl,A1.out⟩
  have hvi:¬ (8:Int) < (len:Int):=by omega
  clear hv
  obtain ⟨r1,r2,r3,hs⟩:=hB rfl
  obtain ⟨n,rfl⟩:∃ n:Nat,room = n:=⟨room.toNat,by omega⟩
  have hP:=Play_ok (w:=w1) n (by omega) (by omega) cap hs r3
  unfold PlayRet at hP
  have HP:=Lib.hid hP
  have HN:=Lib.hid (show n ≤ 5000 by omega)
  clear hP hs r1 r2 r3 hB
  go_wp2_with fail
  refine HP.out.mono ?_; rintro e w2 ⟨c,s,bb,σ,root,L,A,rfl,S2,P2⟩
  obtain ⟨va,vc,hr,hrow⟩:=S2.row
  obtain ⟨F,hAt⟩:=S2.ow.at
  have GG:=P2.roots.good
  have hfl:=firsts_length (A:=A)
  obtain ⟨m0,hm0⟩:∃ m0,m0 = (firsts A).length:=⟨_,rfl⟩
  rw [← hm0] at hr hrow
  have hm9:m0 ≤ 9:=by rw [hm0,hfl]; exact P2.len
  have c3:=row_cell hr (i:=3) (v:=.slice va m0 vc) rfl
  have lc:=row_lt hr
  have hIA:IntsAt w2 va (firsts A):=(IntsAt.own (l:=firsts A) hrow).1
  have H2:=(hIq hr (aIq (A1.out.trans S2.world (fun _ => fEq)) (aIq GG (aIq hAt (aIq P2 (aIq hIA hm0.symm))))))
  clear S2 P2 hr hAt GG HP hrow hfl hIA hm0
  go_upto_if 51 with (first
   | fail
   | (at_builtin; refine wpList_append_ints rfl _ _ rfl (.slice (some ⟨w2.heap.size,0,none⟩) 0 0) 0 [] rfl (empty_row w2) va m0 vc (firsts A) rfl (H2.out.2.2.2.2.2.1.adds ((Ch.refl _ _).alloc _)) H2.out.2.2.2.2.2.2 (by omega) ?_; intro v' w3 own' grow' loc'; have a3:Adds w2 w3:=((Ch.refl _ _).alloc _).grown grow' (fun k hk => .inr (by cases hk; exact Nat.le_refl _)); obtain ⟨qo,qc,rfl⟩:=owns_form own'; rw [List.nil_append] at own'; have own2:=owns_based (b:=w2.heap.size) own' (fun k hk => by cases hk; exact Nat.le_refl _) (by simp) loc'; rw [Nat.zero_add] at own2 ⊢; have c2:=row_cell (a3.row H2.out.1 id) (i:=2) (v:=.int .i64 root) rfl; have H3:=(hIq a3 own2); clear own' own2 grow' loc' a3))
  clear c3
  go_cut [10] (fun s10 wx => ∃ (q:Option Addr) (m qc:Nat),s10 = .slice q m qc ∧ RowI wx q m qc (rootsOf root A) ∧ Adds w2 wx ∧ m ≤ 10)
  case first =>
   by_cases h0:root = 0
   · have b0:(root != 0) = false:=by simpa using h0
     have HR:RowKit.Hid (rootsOf root A = firsts A):=Lib.hid (by unfold rootsOf; rw [if_pos h0,List.append_nil])
     clear h0
     go_wp2_with fail
     go_meet
     exact ⟨qo,m0,qc,rfl,⟨by rw [HR.out]; exact H3.out.2.base (fun _ _ => Nat.zero_le _),by rw [HR.out]; exact H2.out.2.2.2.2.2.2⟩,H3.out.1,by omega⟩
   have b0:(root != 0) = true:=by simpa using h0
   have HR:RowKit.Hid (rootsOf root A = firsts A ++ [root]):=Lib.hid (by unfold rootsOf; rw [if_neg h0])
   have c2:=row_cell (H3.out.1.row H2.out.1 id) (i:=2) (v:=.int .i64 root) rfl
   clear h0
   go_wp2_with (first
    | fail
    | (at_builtin; refine wpList_append_ints rfl _ _ rfl (.slice qo m0 qc) m0 (firsts A) rfl ((((Ch.refl (fun _ => False) w3).alloc (.cells (intL [root]).toArray 3)).owns H3.out.2 (fun _ _ h => h)).base (fun _ _ => Nat.zero_le _)) (some ⟨w3.heap.size,0,none⟩) 1 1 [root] rfl (ints_new0 w3 [root]) rfl (by omega) ?_; intro v' w4 own' grow' loc'; have a4:Adds w2 w4:=(H3.out.1.alloc _).grown grow' (fun k hk => .inr (H3.out.2.lt k hk).1); obtain ⟨qo',qc',rfl⟩:=owns_form own'; have H4:=(hIq a4 own'); clear own' grow' loc' a4))
   go_meet
   exact ⟨qo',m0 + 1,qc',rfl,⟨by rw [HR.out]; exact H4.out.2,by rw [HR.out,List.length_append,H2.out.2.2.2.2.2.2]; rfl⟩,H4.out.1,by omega⟩
  obtain ⟨q,m,qc,rfl,hrw,haw,hm10⟩:=hcut
  have hok:=H2.out.2.2.2.2.1.rootsOk HN.out
  obtain ⟨R,hR⟩:∃ R,R = rootsOf root A:=⟨_,rfl⟩
  rw [← hR] at hok hrw
  have HR':=Lib.hid hR
  have hI:=(IntsAt.own hrw.1).1
  have hcap:R.length ≤ qc:=by
   rcases hrw.1.2 with ⟨_,h1⟩ | ⟨g',cap',cur,e,_,_,h3,_⟩
   · have:=hrw.2; omega
   injection e with _ _ e3
   have:=hrw.2
   omega
  have hck:=fun w1 (a:Adds wc w1) => Check_good (H2.out.2.2.2.1.adds (haw.trans a (fun _ => fEq))) H2.out.2.2.1 qc (hI.adds a) (hok.chk _ (List.Sublist.refl _))
  have hlo:=fun w1 (a:Adds wc w1) => Lost_good (H2.out.2.2.2.1.adds (haw.trans a (fun _ => fEq))) H2.out.2.2.1 qc (hI.adds a) (hok.chk _ (List.Sublist.refl _))
  have hsd:∀ w1,Adds wc w1 → ∀ r ∈ R,Calls Tryz.prog 44 #[.pointer (some ⟨s,0,none⟩),.int .i64 r] w1 fun e w' => e = .returned (.tuple #[.bool true,.int .i64 0]) ∧ Adds w1 w':=fun w1 a r hr => by
   obtain ⟨t,ht,hre,hlv⟩:=hok.each r hr
   exact Sound_ok (H2.out.2.2.2.1.adds (haw.trans a (fun _ => fEq))) H2.out.2.2.1 ht hre hlv
  rw [hrw.2] at hck hlo
  have hoc:=fun w1 (a:Adds wc w1) => Occupied_ok (H2.out.2.2.2.1.adds (haw.trans a (fun _ => fEq)))
  have hck2:=fun w1 (a:Adds wc w1) (l:List Int) (hl:l.Sublist R) (ao:Option Addr) (cap:Nat) (hi:IntsAt w1 ao l) => Check_good (H2.out.2.2.2.1.adds (haw.trans a (fun _ => fEq))) H2.out.2.2.1 cap hi (hok.chk _ hl)
  have HCK:=(hIq hck (aIq hlo (aIq hsd (aIq hoc hck2))))
  have hrc:=haw.row H2.out.1 id
  have HX:=(hIq hrc (aIq hrw (aIq hok (aIq (H2.out.2.1.trans haw (fun _ => fEq)) (aIq hI hcap)))))
  have HSD:RowKit.Hid (∀ w1,Adds wc w1 → ∀ (wz:World),Adds w1 wz → w1.cell? ⟨c,0,none⟩ = some (.pointer (some ⟨s,0,none⟩))):=Lib.hid (fun w1 a wz _ => row_cell (a.row hrc id) (i:=0) rfl)
  have c0:=row_cell hrc (i:=0) (v:=.pointer (some ⟨s,0,none⟩)) rfl
  clear hrw haw hok hI hck hlo hsd hoc hck2 hrc hR H3 c2 hcap
  go_wp2_with fail
  refine (HCK.out.1 _ (Ch.refl _ _)).mono ?_; rintro e w4 ⟨v4,k4,rfl,hW4,own4,a4⟩
  rw [HX.out.2.2.1.says.finds hW4] at own4
  simp only [List.length_nil,fdL,List.flatMap_nil] at own4
  obtain ⟨q4,qc4,rfl⟩:=owns_form own4
  have H4:=Lib.hid a4
  have HW4:=Lib.hid hW4
  have c0:=row_cell (a4.row HX.out.1 id) (i:=0) (v:=.pointer (some ⟨s,0,none⟩)) rfl
  clear own4 hW4 a4
  go_wp2_with fail
  refine (HCK.out.2.1 _ H4.out).mono ?_; rintro e w5 ⟨v5,k5,rfl,hW5,own5,a5⟩
  rw [HX.out.2.2.1.says.lost hW5] at own5
  simp only [List.length_nil,intL,List.map_nil] at own5
  obtain ⟨q5,qc5,rfl⟩:=owns_form own5
  have H5:=Lib.hid (H4.out.trans a5 (fun _ => fEq))
  clear own5 hW5 a5 c0 H4
  go_wp2
  go_loopg [15,16,17] m (fun g s15 s16 s17 wr => ∃ k:Nat,k ≤ m ∧ g = m - k ∧ s15 = .int .i64 k ∧ Adds wc wr)
  case atStart => exact ⟨0,Nat.zero_le _,rfl,rfl,H5.out⟩
  obtain ⟨k,hk,rfl,rfl,hA⟩:=hrel
  have HA:=Lib.hid hA
  have hrk:=RowI.adds HX.out.2.1 hA
  by_cases hkl:k < m
  · obtain ⟨g0,x,rfl,hx,f1⟩:=hrk.cell hkl
    have hcx:∀ wz,Adds wr wz → wz.cell? ⟨g0,k,none⟩ = some (.int .i64 x):=fun wz a => a.cell f1 id
    have hcs:∀ wz,Adds wr wz → wz.cell? ⟨c,0,none⟩ = some (.pointer (some ⟨s,0,none⟩)):=fun wz a => row_cell (a.row (hA.row HX.out.1 id) id) (i:=0) rfl
    have hsd:=fun wz (a:Adds wr wz) => HCK.out.2.2.1 wz (hA.trans a (fun _ => fEq)) x (List.mem_of_getElem? hx)
    have HCX:=Lib.hid hcx
    have HCS:=Lib.hid hcs
    have HSd:=Lib.hid hsd
    have hki:(k:Int) < (m:Int):=by omega
    clear hA hrk hx hcx hcs hsd f1
    go_wp2
    refine wp_region_plan (fun wz => Adds wr wz) 14 [(0,false),(1,false),(2,false),(3,false),(4,false),(5,false),(6,false),(7,false),(8,true),(9,false),(10,false),(11,false),(12,false),(13,false)] (by kernel_rfl) (by kernel_rfl) ?_ ?_
    · exact (Ch.refl _ _).drew
    iterate 3
     refine plan_look rfl rfl (fun w0 hS => (by clear hS; go_simp; try rfl)) ?_
     simp only [Act.put,nAq,nBq,nCq]
    refine plan_look (v:=.pointer (some ⟨s,0,none⟩)) rfl rfl (fun w0 hS => (by have c1:=HCS.out w0 hS; clear hS; go_simp; try rfl)) ?_
    simp only [Act.put,nAq,nBq,nCq]
    iterate 3
     refine plan_look rfl rfl (fun w0 hS => (by clear hS; go_simp; try rfl)) ?_
     simp only [Act.put,nAq,nBq,nCq]
    refine plan_look (v:=.int .i64 x) rfl rfl (fun w0 hS => (by have c1:=HCX.out w0 hS; clear hS; go_simp; try rfl)) ?_
    simp only [Act.put,nAq,nBq,nCq]
    refine plan_do rfl ?_
    go_wp2_with fail
    refine (HSd.out _ (Ch.refl _ _).drew).mono ?_; rintro e w6 ⟨rfl,a6⟩
    have H6:=Lib.hid (show Adds wr w6 from (Ch.refl (fun _ => False) wr).drew.trans a6 (fun _ => fEq))
    clear a6
    dsimp only
    go_step
    refine wpList_nil ?_
    change _ ∧ _
    refine ⟨H6.out,?_⟩
    iterate 5
     refine plan_look rfl rfl (fun w0 hS => (by clear hS; go_simp; try rfl)) ?_
     simp only [Act.put,nAq,nBq,nCq]
    refine plan_end ?_; simp only [List.drop_succ_cons,List.drop_zero]
    go_wp2
    refine NoPanic.normal ?_
    go_wp2
    go_roundg (m - (k + 1))
    case measure => omega
    exact ⟨k + 1,by omega,rfl,by go_num,HA.out.trans H6.out (fun _ => fEq)⟩
  obtain rfl:k = m:=by omega
  have hki:¬ (k:Int) < (k:Int):=by omega
  clear hA hrk
  by_cases hm0:k = 0
  · subst hm0
    have c0:=row_cell (HA.out.row HX.out.1 id) (i:=0) (v:=.pointer (some ⟨s,0,none⟩)) rfl
    have hR0:R = []:=List.eq_nil_of_length_eq_zero HX.out.2.1.2
    have hu:=HX.out.2.2.1.says
    rw [hR0] at hu
    have hu0:=says_none hu
    have hoc:=HCK.out.2.2.2.1 wr HA.out
    rw [hu0] at hoc
    have HOC:=Lib.hid hoc
    clear hR0 hu hu0 hoc
    go_wp2_with fail
    refine HOC.out.mono ?_; rintro e w7 ⟨rfl,rfl⟩
    go_wp2
    go_ret
    exact ⟨rfl,HX.out.2.2.2.1.trans HA.out (fun _ => fEq)⟩
  have hpk:=Pick_any out k (by omega) (by omega)
  have hpi:=pick_in out (show 0 < k by omega)
  obtain ⟨i,hi⟩:∃ i:Nat,pick out k = i:=⟨(pick out k).toNat,by omega⟩
  rw [hi] at hpk hpi
  have hik:i < k:=by omega
  have HPK:=Lib.hid hpk
  have hkz:¬ (k:Int) = 0:=by omega
  have hkz':((k:Int) == 0) = false:=by simpa using hkz
  clear hpk hpi hi hm0
  go_wp2_with fail
  refine (HPK.out wr).mono ?_; rintro e w7 ⟨rfl,rfl⟩
  have hsl1:∀ w0:World,(Instr.sliceAt 43 (.slice q k qc) none (some (.int .i64 (i:Int))) none).run Tryz.prog w0 = .ok (.slice q i qc) w0:=fun w0 => runA_h w0 q k qc i (by have:=HX.out.2.2.2.2.2; have:=HX.out.2.1.2; omega)
  have hsl2:∀ w0:World,(Instr.sliceAt 43 (.slice q k qc) (some (.int .i64 ((i:Int) + 1))) none none).run Tryz.prog w0 = .ok (.slice (advIA q qc (i + 1)) (k - (i + 1)) (qc - (i + 1))) w0:=fun w0 => by
   have:=runA_l w0 q k qc (i + 1) (by omega)
   rw [show ((i + 1:Nat):Int) = (i:Int) + 1 by omega] at this
   exact this
  have hwi:IntKind.i64.wrap ((i:Int) + 1) = (i:Int) + 1:=IntWalk.i64_in _ (by omega)
  have hi1:IntsAt wr q (R.take i):=(HX.out.2.2.2.2.1.adds HA.out).take i
  have hi2:IntsAt wr (advIA q qc (i + 1)) (R.drop (i + 1)):=(HX.out.2.2.2.2.1.adds HA.out).drop (i + 1) qc HX.out.2.2.2.2.2
  obtain ⟨x,hx⟩:∃ x,R[i]? = some x:=⟨_,List.getElem?_eq_getElem (by have:=HX.out.2.1.2; omega)⟩
  obtain ⟨hsub,hcnt⟩:=count_erase hx
  have hln:(R.take i).length = i ∧ (R.drop (i + 1)).length = k - (i + 1):=by
   have:=HX.out.2.1.2
   rw [List.length_take,List.length_drop]
   omega
  have HSU:=(hIq hsub (aIq hcnt (aIq (List.mem_of_getElem? hx) (aIq hi1 (aIq hi2 hln)))))
  obtain ⟨av,hav⟩:∃ av,av = advIA q qc (i + 1):=⟨_,rfl⟩
  obtain ⟨kd,hkd⟩:∃ kd,kd = k - (i + 1):=⟨_,rfl⟩
  obtain ⟨cd,hcd⟩:∃ cd,cd = qc - (i + 1):=⟨_,rfl⟩
  rw [← hav, ← hkd, ← hcd] at hsl2
  rw [← hav, ← hkd] at HSU
  have hkd10:kd ≤ 10:=by omega
  clear hav hkd hcd hi1 hi2 hx hsub hcnt hln
  go_wp2
  refine wp_region_plan (fun _ => True) 11 [(1,false),(2,false),(3,false),(5,false),(6,false),(7,false),(8,false),(0,true),(4,true),(9,true),(10,false)] (by kernel_rfl) (by kernel_rfl) ?_ ?_
  · trivial
  iterate 2
   refine plan_look rfl rfl (fun w0 hS => (by clear hS; go_simp; try rfl)) ?_
   simp only [Act.put,nAq,nBq,nCq]
  refine plan_look (v:=.slice q i qc) rfl rfl (fun w0 hS => (by clear hS; have:=hsl1 w0; go_simp; try rfl)) ?_
  simp only [Act.put,nAq,nBq,nCq]
  iterate 2
   refine plan_look rfl rfl (fun w0 hS => (by clear hS; go_simp; try rfl)) ?_
   simp only [Act.put,nAq,nBq,nCq]
  refine plan_look (v:=.int .i64 ((i:Int) + 1)) rfl rfl (fun w0 hS => (by clear hS; go_simp; try rfl)) ?_
  simp only [Act.put,nAq,nBq,nCq]
  refine plan_look (v:=.slice av kd cd) rfl rfl (fun w0 hS => (by clear hS; have:=hsl2 w0; go_simp; try rfl)) ?_
  simp only [Act.put,nAq,nBq,nCq]
  refine plan_do rfl ?_
  go_wp2_with fail
  refine ⟨trivial,?_⟩
  have a0:Adds wr (wr.drew.alloc (.cells #[] 3)):=(Ch.refl _ _).drew.alloc _
  refine plan_do rfl ?_
  go_wp2_with (first
   | fail
   | (at_builtin; refine wpList_append_ints rfl _ _ rfl (.slice (some ⟨wr.heap.size,0,none⟩) 0 0) 0 [] rfl (empty_row wr.drew) q i qc (R.take i) rfl (HSU.out.2.2.2.1.adds a0) HSU.out.2.2.2.2.2.1 (by omega) ?_; intro v' w8 own' grow' loc'))
  have a8:Adds wr w8:=a0.grown grow' (fun k hk => .inr (by cases hk; exact Nat.le_refl _))
  obtain ⟨q8,c8,rfl⟩:=owns_form own'
  rw [List.nil_append] at own'
  have own8:=owns_based (b:=wr.heap.size) own' (fun k hk => by cases hk; exact Nat.le_refl _) (by simp) loc'
  rw [Nat.zero_add] at own8 ⊢
  have H8:=(hIq a8 own8)
  clear own' own8 grow' loc' a8 a0
  refine ⟨trivial,?_⟩
  refine plan_do rfl ?_
  go_wp2_with (first
   | fail
   | (at_builtin; refine wpList_append_ints rfl _ _ rfl (.slice q8 i c8) i (R.take i) rfl (H8.out.2.base (fun _ _ => Nat.zero_le _)) av kd cd (R.drop (i + 1)) rfl (HSU.out.2.2.2.2.1.adds H8.out.1) HSU.out.2.2.2.2.2.2 (by omega) ?_; intro v' w9 own' grow' loc'))
  have a9:Adds wr w9:=H8.out.1.grown grow' (fun k hk => .inr (H8.out.2.lt k hk).1)
  obtain ⟨q9,c9,rfl⟩:=owns_form own'
  have hI9:=(IntsAt.own own').1
  have hl9:(R.take i ++ R.drop (i + 1)).length = i + kd:=by rw [List.length_append,HSU.out.2.2.2.2.2.1,HSU.out.2.2.2.2.2.2]
  have hck9:=fun w1 (a:Adds w9 w1) => HCK.out.2.2.2.2 w1 ((HA.out.trans a9 (fun _ => fEq)).trans a (fun _ => fEq)) _ HSU.out.1 q9 c9 (hI9.adds a)
  rw [hl9] at hck9
  obtain ⟨m9,hm9'⟩:∃ m9,m9 = i + kd:=⟨_,rfl⟩
  rw [← hm9'] at hck9 ⊢
  have H9:=(hIq a9 hck9)
  clear own' grow' loc' a9 hI9 hl9 hck9 H8 hm9' hsl1 hsl2
  refine ⟨trivial,?_⟩
  refine plan_look rfl rfl (fun w0 hS => (by clear hS; go_simp; try rfl)) ?_
  simp only [Act.put,nAq,nBq,nCq]
  refine plan_end ?_; simp only [List.drop_succ_cons,List.drop_zero]
  go_wp2
  refine NoPanic.normal ?_
  have c0:=row_cell ((HA.out.trans H9.out.1 (fun _ => fEq)).row HX.out.1 id) (i:=0) (v:=.pointer (some ⟨s,0,none⟩)) rfl
  go_wp2_with fail
  refine (H9.out.2 _ (Ch.refl _ _)).mono ?_; rintro e w10 ⟨v10,k10,rfl,hW10,own10,a10⟩
  have hx1:has σ x = true:=by
   obtain ⟨L',hm',h0'⟩:=H2.out.2.2.2.2.1.rootsOf_mem (HR'.out ▸ HSU.out.2.2.1)
   obtain ⟨y,hy,_⟩:=held_there (H2.out.2.2.2.2.1.roots.there hm' |>.resolve_left h0')
   exact get_has hy
  have hne:=HX.out.2.2.1.says.some HW4.out hW10 HSU.out.1 HSU.out.2.2.1 hx1 HSU.out.2.1
  have hless:∀ f ∈ finds σ k10.cnt,f.2.1 < f.2.2:=fun f hf => HX.out.2.2.1.says.less HW4.out hW10 HSU.out.1 hf
  obtain ⟨fl,hfl⟩:∃ fl,fl = finds σ k10.cnt:=⟨_,rfl⟩
  rw [← hfl] at hne hless own10
  obtain ⟨fn,hfn⟩:∃ fn,fn = fl.length:=⟨_,rfl⟩
  have hfpos:0 < fn:=by rw [hfn]; exact List.length_pos_iff.2 hne
  have hfb:fn ≤ 65536:=by
   rw [hfn,hfl]
   exact Nat.le_trans (findsL_len _ _ _) (handles_le H2.out.2.2.1)
  rw [← hfn] at own10
  obtain ⟨g10,c10,cur10,rfl,hg10,hs1,hs2,hs3,hs4⟩:=owns_block own10 hfpos
  have hcell:∀ j,j < fn → ∃ f:Int × Int × Int,fl[j]? = some f ∧ f.2.1 < f.2.2 ∧ w10.cell? ⟨g10,j * 3 + 1,none⟩ = some (.int .i64 f.2.1) ∧ w10.cell? ⟨g10,j * 3 + 2,none⟩ = some (.int .i64 f.2.2):=fun j hj => by
   obtain ⟨f,hf⟩:∃ f,fl[j]? = some f:=⟨_,List.getElem?_eq_getElem (by omega)⟩
   obtain ⟨e1,e2⟩:=fdL_get hf
   exact ⟨f,hf,hless f (List.mem_of_getElem? hf),row_cell hg10 (take_get hs4 e1),row_cell hg10 (take_get hs4 e2)⟩
  have H10:=(hIq ((HA.out.trans H9.out.1 (fun _ => fEq)).trans a10 (fun _ => fEq)) hcell)
  have hfz:((fn:Int) == 0) = false:=by simp; omega
  have hfz':¬ (fn:Int) = 0:=by omega
  clear own10 hW10 a10 hx1 hne hless hfl hfn hg10 hs1 hs2 hs3 hs4 hcell hfpos c0
  go_wp2_with fail
  go_loopg [22] fn (fun g s22 wr' => ∃ j:Nat,j ≤ fn ∧ g = fn - j ∧ s22 = .int .i64 j ∧ Adds w10 wr')
  case atStart => exact ⟨0,Nat.zero_le _,rfl,rfl,Ch.refl _ _⟩
  obtain ⟨j,hj,rfl,rfl,hB⟩:=hrel
  have HB:=Lib.hid hB
  by_cases hjl:j < fn
  · obtain ⟨f,_,hf,f1,f2⟩:=H10.out.2 j hjl
    obtain ⟨wn,hd,hf2⟩:=f
    have HCX:=Lib.hid (show ∀ wz,Adds wr wz → wz.cell? ⟨g10,j * 3 + 1,none⟩ = some (.int .i64 hd) ∧ wz.cell? ⟨g10,j * 3 + 2,none⟩ = some (.int .i64 hf2) from fun wz a => ⟨a.cell (hB.cell f1 id) id,a.cell (hB.cell f2 id) id⟩)
    have hge:decide (hf2 ≤ hd) = false:=decide_eq_false (by dsimp only at hf; omega)
    have hjz:(j:Int) < (fn:Int):=by omega
    clear hB f1 f2 hf
    go_wp2
    refine wp_region_plan (fun wz => Adds wr wz) 11 [(0,false),(1,false),(2,false),(3,false),(4,false),(5,false),(6,false),(7,false),(8,false),(9,false),(10,false)] (by kernel_rfl) (by kernel_rfl) ?_ ?_
    · exact (Ch.refl _ _).drew
    iterate 4
     refine plan_look rfl rfl (fun w0 hS => (by clear hS; go_simp; try rfl)) ?_
     simp only [Act.put,nAq,nBq,nCq]
    refine plan_look (v:=.int .i64 hd) rfl rfl (fun w0 hS => (by have c1:=(HCX.out w0 hS).1; clear hS; go_simp; try rfl)) ?_
    simp only [Act.put,nAq,nBq,nCq]
    iterate 4
     refine plan_look rfl rfl (fun w0 hS => (by clear hS; go_simp; try rfl)) ?_
     simp only [Act.put,nAq,nBq,nCq]
    refine plan_look (v:=.int .i64 hf2) rfl rfl (fun w0 hS => (by have c1:=(HCX.out w0 hS).2; clear hS; go_simp; try rfl)) ?_
    simp only [Act.put,nAq,nBq,nCq]
    refine plan_look (v:=.bool false) rfl rfl (fun w0 hS => (by clear hS; go_simp; try rfl)) ?_
    simp only [Act.put,nAq,nBq,nCq]
    refine plan_end ?_; simp only [List.drop_succ_cons,List.drop_zero]
    go_wp2
    refine NoPanic.normal ?_
    go_wp2
    go_roundg (fn - (j + 1))
    case measure => omega
    exact ⟨j + 1,by omega,rfl,by go_num,HB.out.drew⟩
  obtain rfl:j = fn:=by omega
  have hjz:¬ (j:Int) < (j:Int):=by omega
  clear hB
  go_wp2
  go_ret
  exact ⟨rfl,(HX.out.2.2.2.1.trans H10.out.1 (fun _ => fEq)).trans HB.out (fun _ => fEq)⟩
end
end Go.Proofs.YtmeglndnkdgkoaaGreat.Store
namespace Go.Proofs.YtmeglndnkdgkoaaGreat
open Go.RowKit Go.Proofs.YtmeglndnkdgkoaaGreat.ShaW Go.Proofs.YtmeglndnkdgkoaaGreat.Path Go.Proofs.YtmeglndnkdgkoaaGreat.Store Go.Proofs.YtmeglndnkdgkoaaGreat.Law9 Go.Deep Go.ChangeShapes Go.WideShapes Go.ChangeAt
def InPath (W:World) (v:Value):Prop := ∃ k:List UInt8,k.length = 32 ∧ v = .agg (brow k)
def InBytes (W:World) (v:Value):Prop := ∃ bs:List UInt8,Bytes W v bs ∧ (bs ≠ [] → ∀ k,v.ownBlock = some k → k < W.heap.size)
def InPairs (W:World) (v:Value):Prop := ∃ ao l cap,v = .slice ao (List.length l) cap ∧ PairsAt W ao l ∧ l.length ≤ cap

end Go.Proofs.YtmeglndnkdgkoaaGreat

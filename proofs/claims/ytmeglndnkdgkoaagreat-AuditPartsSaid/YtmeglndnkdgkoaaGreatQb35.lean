/- Proved contracts and plain laws of the layers below, in one text. -/
import Derived.Test.YtmeglndnkdgkoaaGreatQb34
set_option maxHeartbeats 3200000
set_option maxRecDepth 100000
set_option linter.unusedVariables false
namespace Go.Proofs.YtmeglndnkdgkoaaGreat.Store
open Go Go.RowKit Go.Proofs.YtmeglndnkdgkoaaGreat Go.Proofs.YtmeglndnkdgkoaaGreat.ShaW Go.Proofs.YtmeglndnkdgkoaaGreat.Path Go.Proofs.YtmeglndnkdgkoaaGreat.Law9
section
variable {w : World}
def RowI (w:World) (ao:Option Addr) (n cap:Nat) (l:List Int):Prop:=w.ownsRow 0 3 1 (.slice ao n cap) n (intL l) ∧ l.length = n
theorem RowI.adds {w':World} {ao:Option Addr} {n cap:Nat} {l:List Int} (h:RowI w ao n cap l) (a:Adds w w'):RowI w' ao n cap l:=⟨a.owns h.1 (fun _ _ h => h),h.2⟩
theorem RowI.keep {F:Nat → Prop} {w':World} {ao:Option Addr} {n cap:Nat} {l:List Int} (h:RowI w ao n cap l) (a:Ch F w w') (hF:∀ k,F k → w.heap.size ≤ k):RowI w' ao n cap l:=⟨a.owns h.1 (fun k hk hf => by have:=(h.1.lt k hk).2; have:=hF k hf; omega),h.2⟩
theorem RowI.cell {ao:Option Addr} {n cap:Nat} {l:List Int} (h:RowI w ao n cap l) {k:Nat} (hk:k < n):∃ g x,ao = some ⟨g,0,none⟩ ∧ l[k]? = some x ∧ w.cell? ⟨g,k,none⟩ = some (.int .i64 x):=by
 obtain ⟨x,hx⟩:∃ x,l[k]? = some x:=⟨_,List.getElem?_eq_getElem (by have:=h.2; omega)⟩
 obtain ⟨g,cap',cur,e,hg,h1,h2,h3,h4⟩:=owns_block h.1 (by omega)
 injection e with e1 _ _
 refine ⟨g,x,e1,hx,row_cell hg (take_get h4 ?_)⟩
 simp [intL,hx]
theorem audit_parts (room:Int) {ao:Option Addr} {len:Nat} (cap:Nat) (ha:Law9.ActsAt w ao len) (a b:Int) :
 Calls Tryz.prog 10 #[.int .i64 room,.slice ao len cap,.int .i64 a,.int .i64 b] w fun e w' => e = .returned (.bool true) ∧ Adds w w':=by
 have HAW:=Lib.hid (Law12.awake_ok w)
 have HA:=Lib.hid ha
 clear ha
 go_enter Tryz.func10,Tryz.ntmps10
 go_wp2_with fail
 refine HAW.out.mono ?_; rintro e w1 ⟨rfl,a1⟩
 have hL:=Large_ok room cap (HA.out.keep a1 (fun _ => fEq))
 unfold LargeRet at hL
 have HL:=Lib.hid hL
 have A1:=Lib.hid a1
 clear hL a1 HAW
 go_wp2_with fail
 refine HL.out.mono ?_; rintro e w1 ⟨B,rfl,rfl,hB⟩
 cases B with
 | true =>
  clear hB
  go_wp2
  go_ret
  exact ⟨rfl,A1.out⟩
 | false =>
  by_cases hv:8 < len
  · have hvi:(8:Int) < (len:Int):=by omega
    clear hB
    go_wp2
    go_ret
    exact ⟨rfl,A1.out⟩
  have hvi:¬ (8:Int) < (len:Int):=by omega
  clear hv
  obtain ⟨r1,r2,r3,hs⟩:=hB rfl
  obtain ⟨n,rfl⟩:∃ n:Nat,room = n:=⟨room.toNat,by omega⟩
  have hP:=Play_ok (w:=w1) n (by omega) (by omega) cap hs r3
  unfold PlayRet at hP
  have HP:=Lib.hid hP
  clear hP hs r1 r2 r3 hB
  go_wp2_with fail
  refine HP.out.mono ?_; rintro e w2 ⟨c,s,bb,σ,root,L,A,rfl,S2,P2⟩
  obtain ⟨va,vc,hr,_⟩:=S2.row
  obtain ⟨F,hAt⟩:=S2.ow.at
  have GG:=P2.roots.good
  have c0:=row_cell hr (i:=0) (v:=.pointer (some ⟨s,0,none⟩)) rfl
  have hre:=fun w1 (h:Adds w2 w1) (R:List Int) (hl:R.length < 4611686018427387904) (ao:Option Addr) (hR:IntsAt w1 ao R) => Reached_any (hAt.adds h) GG R.length hR hl
  have hlo:=fun w1 (h:Adds w2 w1) (R:List Int) (hl:R.length < 4611686018427387904) (ao:Option Addr) (hR:IntsAt w1 ao R) => Lost_any (hAt.adds h) GG R.length hR hl
  unfold AuditRet at hre hlo
  have hoc:=fun w1 (h:Adds w2 w1) => Occupied_ok (hAt.adds h)
  have hhas:=fun w1 (h:Adds w2 w1) n => Has_ok (hAt.adds h) n
  have HOH:=(hIq hoc hhas)
  have HLo:=Lib.hid hlo
  have HRe:=Lib.hid hre
  have h1:=hre _ ((Ch.refl (fun _ => False) w2).alloc (.cells (intL [a]).toArray 3)) [a] (by simp) _ (Law12.ints_new w2 [a])
  have H1:=Lib.hid h1
  have H2:=(hIq hr (aIq (A1.out.trans S2.world (fun _ => fEq)) (aIq GG hAt)))
  clear S2 P2 hr hAt GG hre hlo hoc hhas h1 HP
  go_wp2_with fail
  refine H1.out.mono ?_; rintro e w3 ⟨qa,ca,la,rfl,oa,a3,fa⟩
  obtain ⟨na,hna⟩:∃ na,na = la.length:=⟨_,rfl⟩
  obtain ⟨ea,hea⟩:∃ ea,ea = chk σ [a]:=⟨_,rfl⟩
  rw [← hna] at oa ⊢
  rw [← hea] at fa ⊢
  have ad3:Adds w2 w3:=((Ch.refl (fun _ => False) w2).alloc (.cells (intL [a]).toArray 3)).trans a3 (fun _ => fEq)
  have H3:=(hIq ad3 (aIq (aIq (oa.base (fun _ _ => Nat.zero_le _)) hna.symm) (aIq fa hea)))
  have c0:=row_cell (ad3.row H2.out.1 id) (i:=0) (v:=.pointer (some ⟨s,0,none⟩)) rfl
  have h4:=HRe.out _ (ad3.alloc (.cells (intL [b]).toArray 3)) [b] (by simp) _ (Law12.ints_new w3 [b])
  have H4:=Lib.hid h4
  clear oa a3 fa ad3 hna hea h4 H1
  go_wp2_with fail
  refine H4.out.mono ?_; rintro e w4 ⟨qb,cb,lb,rfl,ob,a4,fb⟩
  obtain ⟨nb,hnb⟩:∃ nb,nb = lb.length:=⟨_,rfl⟩
  obtain ⟨eb,heb⟩:∃ eb,eb = chk σ [b]:=⟨_,rfl⟩
  rw [← hnb] at ob ⊢
  rw [← heb] at fb ⊢
  have ad34:Adds w3 w4:=((Ch.refl (fun _ => False) w3).alloc (.cells (intL [b]).toArray 3)).trans a4 (fun _ => fEq)
  have ad4:Adds w2 w4:=H3.out.1.trans ad34 (fun _ => fEq)
  have H5:=(hIq ad4 (aIq (RowI.adds H3.out.2.1 ad34) (aIq (aIq (ob.base (fun _ _ => Nat.zero_le _)) hnb.symm) (aIq fb heb))))
  have c0:=row_cell (ad4.row H2.out.1 id) (i:=0) (v:=.pointer (some ⟨s,0,none⟩)) rfl
  have h5:=HRe.out _ (ad4.alloc (.cells (intL [a,b]).toArray 3)) [a,b] (by simp) _ (Law12.ints_new w4 [a,b])
  have H6:=Lib.hid h5
  clear ob a4 fb ad34 ad4 hnb heb h5 H4
  go_wp2_with fail
  refine H6.out.mono ?_; rintro e w5 ⟨qc,cc,lc,rfl,oc,a5,fc⟩
  obtain ⟨nc,hnc⟩:∃ nc,nc = lc.length:=⟨_,rfl⟩
  obtain ⟨ec,hec⟩:∃ ec,ec = chk σ [a,b]:=⟨_,rfl⟩
  rw [← hnc] at oc ⊢
  rw [← hec] at fc ⊢
  have ad45:Adds w4 w5:=((Ch.refl (fun _ => False) w4).alloc (.cells (intL [a,b]).toArray 3)).trans a5 (fun _ => fEq)
  have ad5:Adds w2 w5:=H5.out.1.trans ad45 (fun _ => fEq)
  have H7:=(hIq ad5 (aIq (RowI.adds H5.out.2.1 ad45) (aIq (RowI.adds H5.out.2.2.1 ad45) (aIq (aIq (oc.base (fun _ _ => Nat.zero_le _)) hnc.symm) (aIq fc hec)))))
  have c0:=row_cell (ad5.row H2.out.1 id) (i:=0) (v:=.pointer (some ⟨s,0,none⟩)) rfl
  have h6:=HLo.out _ (ad5.alloc (.cells (intL [a,b]).toArray 3)) [a,b] (by simp) _ (Law12.ints_new w5 [a,b])
  have H8:=Lib.hid h6
  clear oc a5 fc ad45 ad5 hnc hec h6 H6
  go_wp2_with fail
  refine H8.out.mono ?_; rintro e w6 ⟨qd,cd,ld,rfl,od,a6,fd⟩
  obtain ⟨nd',hnd⟩:∃ nd,nd = ld.length:=⟨_,rfl⟩
  rw [← hnd] at od ⊢
  rw [← H7.out.2.2.2.2.2] at fd ⊢
  have ad56:Adds w5 w6:=((Ch.refl (fun _ => False) w5).alloc (.cells (intL [a,b]).toArray 3)).trans a6 (fun _ => fEq)
  have ad6:Adds w2 w6:=H7.out.1.trans ad56 (fun _ => fEq)
  have HR:=(hIq ad6 (aIq (RowI.adds H7.out.2.1 ad56) (aIq (RowI.adds H7.out.2.2.1 ad56) (aIq (RowI.adds H7.out.2.2.2.1 ad56) (aIq (od.base (fun _ _ => Nat.zero_le _)) hnd.symm)))))
  have HF:=(hIq H3.out.2.2 (aIq H5.out.2.2.2 (aIq H7.out.2.2.2.2 fd)))
  have c0:=row_cell (ad6.row H2.out.1 id) (i:=0) (v:=.pointer (some ⟨s,0,none⟩)) rfl
  have hr6:=ad6.row H2.out.1 id
  have HR6:=Lib.hid hr6
  clear od a6 fd ad56 ad6 hnd H8 H7 H5 H3 HRe HLo hr6
  by_cases hbad:ea = 0 ∧ eb = 0
  · obtain ⟨rfl,rfl⟩:=hbad
    have hec:ec = 0:=by
     rw [HF.out.2.2.1.2,chk_two, ← HF.out.1.2, ← HF.out.2.1.2]
     exact ⟨rfl,rfl⟩
    subst hec
    have hpf:PartsF σ la lb lc ld:=parts_facts H2.out.2.2.1 (HF.out.1.1.resolve_left (fun h => h.1 rfl)).2 (HF.out.2.1.1.resolve_left (fun h => h.1 rfl)).2 (HF.out.2.2.1.1.resolve_left (fun h => h.1 rfl)).2 (HF.out.2.2.2.resolve_left (fun h => h.1 rfl)).2
    have HPF:=Lib.hid hpf
    have hmm:=@run_makeMap Tryz.prog
    clear hpf
    go_wp2_with fail
    clear hmm
    obtain ⟨W8,hW8⟩:∃ W8,W8 = (w6.alloc (.map #[] 0)).alloc (.cells #[.slice qa na ca,.slice qb nb cb] 43):=⟨_,rfl⟩
    have hI8:ISet W8 w6.heap.size 0 []:=by
     rw [hW8]
     exact (ISet.made w6).keep (F:=fun _ => False) ((Ch.refl _ _).alloc _) id
    have hr8:W8.heap[w6.heap.size + 1]? = some (.cells #[.slice qa na ca,.slice qb nb cb] 43 (0,0)):=by
     rw [hW8]
     have:=heap_alloc_new (w6.alloc (.map #[] 0)) (.cells #[.slice qa na ca,.slice qb nb cb] 43)
     simpa using this
    have ha8:Adds w6 W8:=by rw [hW8]; exact ((Ch.refl _ _).alloc _).alloc _
    rw [← hW8]
    have HW8:=(hIq hI8 (aIq hr8 (aIq ha8 (rfl:w6.heap.size = w6.heap.size))))
    clear hI8 hr8 ha8 hW8
    have hrow:∀ j,j < 2 → ∃ q nr cr lr,(#[.slice qa na ca,.slice qb nb cb]:Array Value)[j]? = some (.slice q nr cr) ∧ RowI w6 q nr cr lr ∧ lr.length ≤ 65536 ∧ (∀ x ∈ lr,0 ≤ x ∧ x ≤ 65536) ∧ (∀ x,(x ∈ lr ∨ (1 ≤ j ∧ x ∈ la)) ↔ ((1 ≤ j + 1 ∧ x ∈ la) ∨ (2 ≤ j + 1 ∧ x ∈ lb))):=fun j hj => by
     rcases (show j = 0 ∨ j = 1 by omega) with rfl | rfl
     · exact ⟨qa,na,ca,la,rfl,HR.out.2.1,HPF.out.lenA,fun x hx => HPF.out.small x (.inl hx),fun x => by simp⟩
     exact ⟨qb,nb,cb,lb,rfl,HR.out.2.2.1,HPF.out.lenB,fun x hx => HPF.out.small x (.inr (.inl hx)),fun x => by simp [or_comm]⟩
    have HROW:=Lib.hid hrow
    clear hrow
    go_loopg [22,23,114] 2 (fun g s22 s23 s114 wr => ∃ (j cnt:Nat) (S:List Int),j ≤ 2 ∧ g = 2 - j ∧ s114 = .int .i64 j ∧ ISet wr w6.heap.size cnt S ∧ cnt ≤ j * 65536 ∧ S.Nodup ∧ (∀ x,x ∈ S ↔ (1 ≤ j ∧ x ∈ la) ∨ (2 ≤ j ∧ x ∈ lb)) ∧ Ch (fun k => k = w6.heap.size) W8 wr)
    case atStart => exact ⟨0,0,[],by omega,rfl,rfl,HW8.out.1,by omega,List.nodup_nil,fun x => by simp,Ch.refl _ _⟩
    obtain ⟨j,cnt,S,hj,rfl,rfl,hI,hcnt,hS,hmem,hch⟩:=hrel
    have HI:=(hIq hI (aIq hcnt (aIq hS (aIq hmem hch))))
    clear hI hcnt hS hmem hch
    by_cases hj2:j < 2
    · obtain ⟨q,nr,cr,lr,hq,hrw,hlen,hsm,hun⟩:=HROW.out j hj2
      have cq:=row_cell (HI.out.2.2.2.2.row HW8.out.2.1 (by omega)) hq
      have hjz:(j:Int) < 2:=by omega
      have hchb:Ch (fun k => k = w6.heap.size) w6 wr:=(HW8.out.2.2.1.mono (fun _ _ h => h.elim)).trans_same HI.out.2.2.2.2
      have HJ:=(hIq (aIq hrw hchb) (aIq hlen (aIq hsm (aIq hun hrw.2))))
      have hnr:(nr:Int) ≤ 65536:=by have:=HJ.out.2.1; have:=HJ.out.2.2.2.2; omega
      clear hrw hlen hsm hun hchb hq
      go_wp2_with fail
      go_loopg [23] nr (fun g s23 wi => ∃ (k cnt':Nat) (S':List Int),k ≤ nr ∧ g = nr - k ∧ s23 = .int .i64 k ∧ ISet wi w6.heap.size cnt' S' ∧ cnt' ≤ cnt + k ∧ S'.Nodup ∧ (∀ x,x ∈ S' ↔ x ∈ S ∨ x ∈ lr.take k) ∧ Ch (fun k => k = w6.heap.size) wr wi)
      case atStart => exact ⟨0,cnt,S,Nat.zero_le _,rfl,rfl,HI.out.1,by omega,HI.out.2.2.1,fun x => by simp,Ch.refl _ _⟩
      obtain ⟨k,cnt',S',hk,rfl,rfl,hI',hcnt',hS',hmem',hch'⟩:=hrel
      by_cases hkl:k < nr
      · have hrk:=RowI.keep HJ.out.1.1 (HJ.out.1.2.trans_same hch') (fun i hi => by omega)
        obtain ⟨g0,x,rfl,hx,f1⟩:=hrk.cell hkl
        have hxm:x ∈ lr:=List.mem_of_getElem? hx
        have hxs:=HJ.out.2.2.1 x hxm
        have hxw:=wf_small hxs.1 hxs.2
        have hkz:(k:Int) < (nr:Int):=by omega
        have hcm:cnt' < maxLen:=by have:=HI.out.2.1; have:=HJ.out.2.1; have:=HJ.out.2.2.2.2; unfold maxLen; omega
        have HK:=(hIq hI' (aIq hcnt' (aIq hS' (aIq hmem' (aIq hch' (aIq hx (aIq hxw hcm)))))))
        clear hI' hcnt' hS' hmem' hch' hrk hx hxm hxs hxw hcm
        go_wp2_with (first
         | fail
         | (at_mapUpdate; refine wp_iset HK.out.1 HK.out.2.2.2.2.2.2.2 rfl _ _ _ rfl rfl x rfl HK.out.2.2.2.2.2.2.1 rfl ?_; intro w9 hI9 hch9; have H9:=(hIq hI9 hch9); clear hI9 hch9))
        go_roundg (nr - (k + 1))
        case measure => omega
        exact ⟨k + 1,_,_,by omega,rfl,by go_num,H9.out.1,by have:=HK.out.2.1; omega,nodup_insI HK.out.2.2.1,fun y => by rw [mem_insI,HK.out.2.2.2.1,List.take_add_one,HK.out.2.2.2.2.2.1,List.mem_append]; simp; constructor <;> (intro h; rcases h with h | h | h <;> simp [h]),HK.out.2.2.2.2.1.trans_same H9.out.2⟩
      obtain rfl:k = nr:=by omega
      have hmf:∀ x,x ∈ S' ↔ (1 ≤ j + 1 ∧ x ∈ la) ∨ (2 ≤ j + 1 ∧ x ∈ lb):=fun x => by
       rw [hmem',List.take_of_length_le (by have:=HJ.out.2.2.2.2; omega),HI.out.2.2.2.1, ← HJ.out.2.2.2.1 x]
       constructor
       · rintro ((h | h) | h)
         · exact .inr h
         · omega
         exact .inl h
       rintro (h | h)
       · exact .inr h
       exact .inl (.inl h)
      have HK:=(hIq hI' (aIq hcnt' (aIq hS' (aIq hmf hch'))))
      have hkz:¬ (k:Int) < (k:Int):=by omega
      clear hI' hcnt' hS' hmem' hch' hmf
      go_wp2_with fail
      go_roundg (2 - (j + 1))
      case measure => omega
      exact ⟨j + 1,_,_,by omega,rfl,by go_num,HK.out.1,by have:=HK.out.2.1; have:=HI.out.2.1; have:=HJ.out.2.1; have:=HJ.out.2.2.2.2; omega,HK.out.2.2.1,HK.out.2.2.2.1,HI.out.2.2.2.2.trans_same HK.out.2.2.2.2⟩
    obtain rfl:j = 2:=by omega
    have hchb:Ch (fun k => k = w6.heap.size) w6 wr:=(HW8.out.2.2.1.mono (fun _ _ h => h.elim)).trans_same HI.out.2.2.2.2
    have hgeB:∀ k,k = w6.heap.size → w6.heap.size ≤ k:=fun k hk => by have:=HW8.out.2.2.2; omega
    have hrc:=HR.out.2.2.2.1.keep hchb hgeB
    have hrd:=RowI.keep HR.out.2.2.2.2 hchb hgeB
    have hrow6:=hchb.row HR6.out (fun e => by have:=row_lt HR6.out; have:=HW8.out.2.2.2; omega)
    have hadr:Adds w2 wr:=HR.out.1.trans hchb (fun i hi => .inr (by have:=hgeB i hi; have:=HR.out.1.size; omega))
    have hlenS:S.length = nc:=by
     have hp:S.Perm lc:=(List.perm_ext_iff_of_nodup HI.out.2.2.1 HPF.out.nodup).2 (fun x => by rw [HI.out.2.2.2.1,HPF.out.both]; simp)
     rw [hp.length_eq]
     exact HR.out.2.2.2.1.2
    have hSm:∀ x,x ∈ S ↔ x ∈ lc:=fun x => by rw [HI.out.2.2.2.1,HPF.out.both]; simp
    have hln:=HI.out.1.len
    rw [hlenS] at hln
    have hus:nc + nd' = σ.used:=by have:=HPF.out.all; rw [HR.out.2.2.2.1.2,HR.out.2.2.2.2.2] at this; exact this
    have hu6:σ.used ≤ 65536:=(H2.out.2.2.2.used_le).1
    have hwu:IntKind.i64.wrap ((nc:Int) + (nd':Int)) = ((σ.used:Nat):Int):=by rw [IntWalk.i64_in _ (by omega)]; omega
    have c0:=row_cell hrow6 (i:=0) (v:=.pointer (some ⟨s,0,none⟩)) rfl
    have hocc:=HOH.out.1 wr hadr
    have hhas:=fun w1 (h:Adds wr w1) n => HOH.out.2 w1 (hadr.trans h (fun _ => fEq)) n
    obtain ⟨us,hue⟩:∃ us,us = σ.used:=⟨_,rfl⟩
    rw [← hue] at hwu hocc
    have HQ:=(hIq hrc (aIq hrd (aIq hrow6 (aIq hadr (aIq hSm (aIq hhas HI.out.1))))))
    have HOC:=Lib.hid hocc
    have hnc6:(nc:Int) ≤ 65536:=by omega
    have hnd6:(nd':Int) ≤ 65536:=by omega
    have hj2':¬ ((2:Nat):Int) < 2:=by omega
    clear hchb hgeB hrc hrd hrow6 hadr hlenS hSm hus hu6 hhas hocc hue hj hj2
    go_wp2_with fail
    refine HOC.out.mono ?_; rintro e w9 ⟨rfl,hw9⟩
    subst hw9
    clear hln
    go_wp2_with fail
    obtain ⟨W9,hW9⟩:∃ W9,W9 = wr:=⟨_,rfl⟩
    subst hW9
    go_loopg [24] nc (fun g s24 wk => ∃ k:Nat,k ≤ nc ∧ g = nc - k ∧ s24 = .int .i64 k ∧ Adds W9 wk)
    case atStart => exact ⟨0,Nat.zero_le _,rfl,rfl,Ch.refl _ _⟩
    obtain ⟨k,hk,rfl,rfl,hA⟩:=hrel
    have HA:=Lib.hid hA
    have hrk:=RowI.adds HQ.out.1 hA
    by_cases hkl:k < nc
    · obtain ⟨g0,x,hqc,hx,f1⟩:=hrk.cell hkl
      have hxm:x ∈ lc:=List.mem_of_getElem? hx
      have hxs:=HPF.out.small x (.inr (.inr (.inl hxm)))
      have hxw:=wf_small hxs.1 hxs.2
      have hlk:∀ wz,Adds W9 wz → (Instr.lookup 97 (.map (some w6.heap.size)) (.int .i64 x) false).run Tryz.prog wz = .ok (.bool true) wz:=fun wz a => by
       have h:=(HQ.out.2.2.2.2.2.2.keep a id).look hxw
       rwa [decide_eq_true ((HQ.out.2.2.2.2.1 x).2 hxm)] at h
      have hcx:∀ wz,Adds wr wz → wz.cell? ⟨g0,k,none⟩ = some (.int .i64 x):=fun wz a => a.cell f1 id
      have HLK:=Lib.hid (fun wz (a:Adds wr wz) => hlk wz (HA.out.trans a (fun _ => fEq)))
      have HCX:=Lib.hid hcx
      have HRK:=Lib.hid hrk
      have HXX:=Lib.hid hx
      subst hqc
      have hkz:(k:Int) < (nc:Int):=by omega
      rcases Nat.eq_zero_or_pos k with h0 | h0
      · subst h0
        clear hA hrk hx hxm hxs hxw hlk hcx f1 hk
        go_wp2
        refine wp_region_plan (fun wz => Adds wr wz) 23 [(0,false),(1,false),(2,false),(3,false),(4,false),(5,false),(6,false),(7,false),(8,false),(9,false),(10,false),(11,false),(12,false),(13,false),(14,false),(15,false),(16,false),(17,false),(18,false),(19,false),(20,false),(21,false),(22,false)] (by kernel_rfl) (by kernel_rfl) ?_ ?_
        · exact (Ch.refl _ _).drew
        iterate 4
         refine plan_look rfl rfl (fun w0 hS => (by clear hS; go_simp; try rfl)) ?_
         simp only [Act.put,nAq,nBq,nCq]
        refine plan_look (v:=.int .i64 x) rfl rfl (fun w0 hS => (by have c1:=HCX.out w0 hS; clear hS; go_simp; try rfl)) ?_
        simp only [Act.put,nAq,nBq,nCq]
        refine plan_look (v:=.bool true) rfl rfl (fun w0 hS => (by have c1:=HLK.out w0 hS; clear hS; go_simp; try rfl)) ?_
        simp only [Act.put,nAq,nBq,nCq]
        iterate 3
         refine plan_look rfl rfl (fun w0 hS => (by clear hS; go_simp; try rfl)) ?_
         simp only [Act.put,nAq,nBq,nCq]
        refine plan_look (v:=.bool false) rfl rfl (fun w0 hS => (by skip; clear hS; go_simp; try rfl)) ?_
        simp only [Act.put,nAq,nBq,nCq]
        refine plan_look (v:=.bool false) rfl rfl (fun w0 hS => (by skip; clear hS; go_simp; try rfl)) ?_
        simp only [Act.put,nAq,nBq,nCq]
        iterate 10
         refine plan_skip rfl (by rfl) ?_
         simp only [Act.put,nAq,nBq,nCq]
        iterate 2
         refine plan_look rfl rfl (fun w0 hS => (by clear hS; go_simp; try rfl)) ?_
         simp only [Act.put,nAq,nBq,nCq]
        refine plan_end ?_; simp only [List.drop_succ_cons,List.drop_zero]
        go_wp2
        refine NoPanic.normal ?_
        go_wp2
        go_roundg (nc - (0 + 1))
        case measure => omega
        exact ⟨0 + 1,by omega,rfl,by go_num,HA.out.drew⟩
      obtain ⟨i,hki⟩:∃ i,k = i + 1:=⟨k - 1,by omega⟩
      obtain ⟨g1,y,hg1,hy,f2⟩:=HRK.out.cell (show i < nc by omega)
      cases hg1
      have hlt:y < x:=HPF.out.upc i y x hy (hki ▸ HXX.out)
      have hle:decide (x ≤ y) = false:=decide_eq_false (by omega)
      have hk0:decide ((0:Int) < (k:Int)) = true:=decide_eq_true (by omega)
      have hwk:IntKind.i64.wrap ((k:Int) - 1) = (i:Int):=by rw [IntWalk.i64_in _ (by omega)]; omega
      have hiz:(i:Int) < (nc:Int):=by omega
      have HCY:=Lib.hid (show ∀ wz,Adds wr wz → wz.cell? ⟨g0,i,none⟩ = some (.int .i64 y) from fun wz a => a.cell f2 id)
      clear hA hrk hx hxm hxs hxw hlk hcx f1 hk hki hy f2 hlt
      go_wp2
      refine wp_region_plan (fun wz => Adds wr wz) 23 [(0,false),(1,false),(2,false),(3,false),(4,false),(5,false),(6,false),(7,false),(8,false),(9,false),(10,false),(11,false),(12,false),(13,false),(14,false),(15,false),(16,false),(17,false),(18,false),(19,false),(20,false),(21,false),(22,false)] (by kernel_rfl) (by kernel_rfl) ?_ ?_
      · exact (Ch.refl _ _).drew
      iterate 4
       refine plan_look rfl rfl (fun w0 hS => (by clear hS; go_simp; try rfl)) ?_
       simp only [Act.put,nAq,nBq,nCq]
      refine plan_look (v:=.int .i64 x) rfl rfl (fun w0 hS => (by have c1:=HCX.out w0 hS; clear hS; go_simp; try rfl)) ?_
      simp only [Act.put,nAq,nBq,nCq]
      refine plan_look (v:=.bool true) rfl rfl (fun w0 hS => (by have c1:=HLK.out w0 hS; clear hS; go_simp; try rfl)) ?_
      simp only [Act.put,nAq,nBq,nCq]
      iterate 3
       refine plan_look rfl rfl (fun w0 hS => (by clear hS; go_simp; try rfl)) ?_
       simp only [Act.put,nAq,nBq,nCq]
      refine plan_look (v:=.bool true) rfl rfl (fun w0 hS => (by skip; clear hS; go_simp; try rfl)) ?_
      simp only [Act.put,nAq,nBq,nCq]
      refine plan_look (v:=.bool true) rfl rfl (fun w0 hS => (by skip; clear hS; go_simp; try rfl)) ?_
      simp only [Act.put,nAq,nBq,nCq]
      iterate 3
       refine plan_look rfl rfl (fun w0 hS => (by clear hS; go_simp; try rfl)) ?_
       simp only [Act.put,nAq,nBq,nCq]
      refine plan_look (v:=.int .i64 x) rfl rfl (fun w0 hS => (by have c1:=HCX.out w0 hS; clear hS; go_simp; try rfl)) ?_
      simp only [Act.put,nAq,nBq,nCq]
      iterate 2
       refine plan_look rfl rfl (fun w0 hS => (by clear hS; go_simp; try rfl)) ?_
       simp only [Act.put,nAq,nBq,nCq]
      refine plan_look (v:=.int .i64 (i:Int)) rfl rfl (fun w0 hS => (by skip; clear hS; go_simp; try rfl)) ?_
      simp only [Act.put,nAq,nBq,nCq]
      iterate 1
       refine plan_look rfl rfl (fun w0 hS => (by clear hS; go_simp; try rfl)) ?_
       simp only [Act.put,nAq,nBq,nCq]
      refine plan_look (v:=.int .i64 y) rfl rfl (fun w0 hS => (by have c1:=HCY.out w0 hS; clear hS; go_simp; try rfl)) ?_
      simp only [Act.put,nAq,nBq,nCq]
      refine plan_look (v:=.bool false) rfl rfl (fun w0 hS => (by skip; clear hS; go_simp; try rfl)) ?_
      simp only [Act.put,nAq,nBq,nCq]
      iterate 2
       refine plan_look rfl rfl (fun w0 hS => (by clear hS; go_simp; try rfl)) ?_
       simp only [Act.put,nAq,nBq,nCq]
      refine plan_end ?_; simp only [List.drop_succ_cons,List.drop_zero]
      go_wp2
      refine NoPanic.normal ?_
      go_wp2
      go_roundg (nc - (k + 1))
      case measure => omega
      exact ⟨k + 1,by omega,rfl,by go_num,HA.out.drew⟩
    obtain rfl:k = nc:=by omega
    have hkz:¬ (k:Int) < (k:Int):=by omega
    clear hA hrk
    go_wp2_with fail
    obtain ⟨W10,hW10⟩:∃ W10,W10 = wr:=⟨_,rfl⟩
    subst hW10
    go_loopg [25] nd' (fun g s25 wk => ∃ q:Nat,q ≤ nd' ∧ g = nd' - q ∧ s25 = .int .i64 q ∧ Adds W9 wk)
    case atStart => exact ⟨0,Nat.zero_le _,rfl,rfl,HA.out⟩
    obtain ⟨q,hq,rfl,rfl,hA⟩:=hrel
    have HA:=Lib.hid hA
    have hrk:=RowI.adds HQ.out.2.1 hA
    by_cases hql:q < nd'
    · obtain ⟨g0,x,hqd,hx,f1⟩:=hrk.cell hql
      have hxm:x ∈ ld:=List.mem_of_getElem? hx
      have hxs:=HPF.out.small x (.inr (.inr (.inr hxm)))
      have hxw:=wf_small hxs.1 hxs.2
      have hlk:∀ wz,Adds W9 wz → (Instr.lookup 97 (.map (some w6.heap.size)) (.int .i64 x) false).run Tryz.prog wz = .ok (.bool false) wz:=fun wz a => by
       have h:=(HQ.out.2.2.2.2.2.2.keep a id).look hxw
       rwa [decide_eq_false (fun hm => (HPF.out.lost x hxm).2 ((HQ.out.2.2.2.2.1 x).1 hm))] at h
      have hcx:∀ wz,Adds wr wz → wz.cell? ⟨g0,q,none⟩ = some (.int .i64 x):=fun wz a => a.cell f1 id
      have hcs:∀ wz,Adds wr wz → wz.cell? ⟨c,0,none⟩ = some (.pointer (some ⟨s,0,none⟩)):=fun wz a => row_cell (a.row (HA.out.row HQ.out.2.2.1 id) id) (i:=0) rfl
      have hhx:=fun w1 (a:Adds wr w1) => HQ.out.2.2.2.2.2.1 w1 (HA.out.trans a (fun _ => fEq)) x
      rw [(HPF.out.lost x hxm).1] at hhx
      have HHX:=Lib.hid hhx
      have HLK:=Lib.hid (fun wz (a:Adds wr wz) => hlk wz (HA.out.trans a (fun _ => fEq)))
      have HCX:=Lib.hid hcx
      have HCS:=Lib.hid hcs
      have HRK:=Lib.hid hrk
      have HXX:=Lib.hid hx
      subst hqd
      have hqz:(q:Int) < (nd':Int):=by omega
      rcases Nat.eq_zero_or_pos q with h0 | h0
      · subst h0
        clear hA hrk hx hxm hxs hxw hlk hcx f1 hq hcs hhx
        go_wp2
        refine wp_region_plan (fun wz => Adds wr wz) 34 [(0,false),(1,false),(2,false),(3,false),(4,false),(5,false),(6,false),(7,false),(8,false),(9,false),(10,false),(11,false),(12,false),(13,false),(14,false),(15,true),(16,false),(17,false),(18,false),(19,false),(20,false),(21,false),(22,false),(23,false),(24,false),(25,false),(26,false),(27,false),(28,false),(29,false),(30,false),(31,false),(32,false),(33,false)] (by kernel_rfl) (by kernel_rfl) ?_ ?_
        · exact (Ch.refl _ _).drew
        iterate 4
         refine plan_look rfl rfl (fun w0 hS => (by clear hS; go_simp; try rfl)) ?_
         simp only [Act.put,nAq,nBq,nCq]
        refine plan_look (v:=.int .i64 x) rfl rfl (fun w0 hS => (by have c1:=HCX.out w0 hS; clear hS; go_simp; try rfl)) ?_
        simp only [Act.put,nAq,nBq,nCq]
        refine plan_look (v:=.bool false) rfl rfl (fun w0 hS => (by have c1:=HLK.out w0 hS; clear hS; go_simp; try rfl)) ?_
        simp only [Act.put,nAq,nBq,nCq]
        refine plan_look (v:=.bool false) rfl rfl (fun w0 hS => (by skip; clear hS; go_simp; try rfl)) ?_
        simp only [Act.put,nAq,nBq,nCq]
        iterate 3
         refine plan_look rfl rfl (fun w0 hS => (by clear hS; go_simp; try rfl)) ?_
         simp only [Act.put,nAq,nBq,nCq]
        refine plan_look (v:=.pointer (some ⟨s,0,none⟩)) rfl rfl (fun w0 hS => (by have c1:=HCS.out w0 hS; clear hS; go_simp; try rfl)) ?_
        simp only [Act.put,nAq,nBq,nCq]
        iterate 3
         refine plan_look rfl rfl (fun w0 hS => (by clear hS; go_simp; try rfl)) ?_
         simp only [Act.put,nAq,nBq,nCq]
        refine plan_look (v:=.int .i64 x) rfl rfl (fun w0 hS => (by have c1:=HCX.out w0 hS; clear hS; go_simp; try rfl)) ?_
        simp only [Act.put,nAq,nBq,nCq]
        refine plan_do rfl ?_
        go_wp2_with fail
        refine (HHX.out _ (Ch.refl _ _).drew).mono ?_; rintro e w5 ⟨rfl,a5⟩
        have H5:=Lib.hid (show Adds wr w5 from (Ch.refl (fun _ => False) wr).drew.trans a5 (fun _ => fEq))
        clear a5
        dsimp only
        go_step
        refine wpList_nil ?_
        change _ ∧ _
        refine ⟨H5.out,?_⟩
        refine plan_look (v:=.bool false) rfl rfl (fun w0 hS => (by skip; clear hS; go_simp; try rfl)) ?_
        simp only [Act.put,nAq,nBq,nCq]
        refine plan_look (v:=.bool false) rfl rfl (fun w0 hS => (by skip; clear hS; go_simp; try rfl)) ?_
        simp only [Act.put,nAq,nBq,nCq]
        refine plan_look (v:=.bool false) rfl rfl (fun w0 hS => (by skip; clear hS; go_simp; try rfl)) ?_
        simp only [Act.put,nAq,nBq,nCq]
        iterate 1
         refine plan_look rfl rfl (fun w0 hS => (by clear hS; go_simp; try rfl)) ?_
         simp only [Act.put,nAq,nBq,nCq]
        refine plan_look (v:=.bool false) rfl rfl (fun w0 hS => (by skip; clear hS; go_simp; try rfl)) ?_
        simp only [Act.put,nAq,nBq,nCq]
        refine plan_look (v:=.bool false) rfl rfl (fun w0 hS => (by skip; clear hS; go_simp; try rfl)) ?_
        simp only [Act.put,nAq,nBq,nCq]
        iterate 10
         refine plan_skip rfl (by rfl) ?_
         simp only [Act.put,nAq,nBq,nCq]
        refine plan_look (v:=.bool false) rfl rfl (fun w0 hS => (by skip; clear hS; go_simp; try rfl)) ?_
        simp only [Act.put,nAq,nBq,nCq]
        refine plan_look (v:=.bool false) rfl rfl (fun w0 hS => (by skip; clear hS; go_simp; try rfl)) ?_
        simp only [Act.put,nAq,nBq,nCq]
        refine plan_end ?_; simp only [List.drop_succ_cons,List.drop_zero]
        go_wp2
        refine NoPanic.normal ?_
        go_wp2
        go_roundg (nd' - (0 + 1))
        case measure => omega
        exact ⟨0 + 1,by omega,rfl,by go_num,HA.out.trans H5.out (fun _ => fEq)⟩
      obtain ⟨i,hki⟩:∃ i,q = i + 1:=⟨q - 1,by omega⟩
      obtain ⟨g1,y,hg1,hy,f2⟩:=HRK.out.cell (show i < nd' by omega)
      cases hg1
      have hlt:y < x:=HPF.out.upd i y x hy (hki ▸ HXX.out)
      have hle:decide (x ≤ y) = false:=decide_eq_false (by omega)
      have hwk:IntKind.i64.wrap ((q:Int) - 1) = (i:Int):=by rw [IntWalk.i64_in _ (by omega)]; omega
      have hiz:(i:Int) < (nd':Int):=by omega
      have HCY:=Lib.hid (show ∀ wz,Adds wr wz → wz.cell? ⟨g0,i,none⟩ = some (.int .i64 y) from fun wz a => a.cell f2 id)
      clear hA hrk hx hxm hxs hxw hlk hcx f1 hq hki hy f2 hlt hcs hhx
      go_wp2
      refine wp_region_plan (fun wz => Adds wr wz) 34 [(0,false),(1,false),(2,false),(3,false),(4,false),(5,false),(6,false),(7,false),(8,false),(9,false),(10,false),(11,false),(12,false),(13,false),(14,false),(15,true),(16,false),(17,false),(18,false),(19,false),(20,false),(21,false),(22,false),(23,false),(24,false),(25,false),(26,false),(27,false),(28,false),(29,false),(30,false),(31,false),(32,false),(33,false)] (by kernel_rfl) (by kernel_rfl) ?_ ?_
      · exact (Ch.refl _ _).drew
      iterate 4
       refine plan_look rfl rfl (fun w0 hS => (by clear hS; go_simp; try rfl)) ?_
       simp only [Act.put,nAq,nBq,nCq]
      refine plan_look (v:=.int .i64 x) rfl rfl (fun w0 hS => (by have c1:=HCX.out w0 hS; clear hS; go_simp; try rfl)) ?_
      simp only [Act.put,nAq,nBq,nCq]
      refine plan_look (v:=.bool false) rfl rfl (fun w0 hS => (by have c1:=HLK.out w0 hS; clear hS; go_simp; try rfl)) ?_
      simp only [Act.put,nAq,nBq,nCq]
      refine plan_look (v:=.bool false) rfl rfl (fun w0 hS => (by skip; clear hS; go_simp; try rfl)) ?_
      simp only [Act.put,nAq,nBq,nCq]
      iterate 3
       refine plan_look rfl rfl (fun w0 hS => (by clear hS; go_simp; try rfl)) ?_
       simp only [Act.put,nAq,nBq,nCq]
      refine plan_look (v:=.pointer (some ⟨s,0,none⟩)) rfl rfl (fun w0 hS => (by have c1:=HCS.out w0 hS; clear hS; go_simp; try rfl)) ?_
      simp only [Act.put,nAq,nBq,nCq]
      iterate 3
       refine plan_look rfl rfl (fun w0 hS => (by clear hS; go_simp; try rfl)) ?_
       simp only [Act.put,nAq,nBq,nCq]
      refine plan_look (v:=.int .i64 x) rfl rfl (fun w0 hS => (by have c1:=HCX.out w0 hS; clear hS; go_simp; try rfl)) ?_
      simp only [Act.put,nAq,nBq,nCq]
      refine plan_do rfl ?_
      go_wp2_with fail
      refine (HHX.out _ (Ch.refl _ _).drew).mono ?_; rintro e w5 ⟨rfl,a5⟩
      have H5:=Lib.hid (show Adds wr w5 from (Ch.refl (fun _ => False) wr).drew.trans a5 (fun _ => fEq))
      clear a5
      dsimp only
      go_step
      refine wpList_nil ?_
      change _ ∧ _
      refine ⟨H5.out,?_⟩
      refine plan_look (v:=.bool false) rfl rfl (fun w0 hS => (by skip; clear hS; go_simp; try rfl)) ?_
      simp only [Act.put,nAq,nBq,nCq]
      refine plan_look (v:=.bool false) rfl rfl (fun w0 hS => (by skip; clear hS; go_simp; try rfl)) ?_
      simp only [Act.put,nAq,nBq,nCq]
      refine plan_look (v:=.bool false) rfl rfl (fun w0 hS => (by skip; clear hS; go_simp; try rfl)) ?_
      simp only [Act.put,nAq,nBq,nCq]
      iterate 1
       refine plan_look rfl rfl (fun w0 hS => (by clear hS; go_simp; try rfl)) ?_
       simp only [Act.put,nAq,nBq,nCq]
      refine plan_look (v:=.bool true) rfl rfl (fun w0 hS => (by skip; clear hS; go_simp; try rfl)) ?_
      simp only [Act.put,nAq,nBq,nCq]
      refine plan_look (v:=.bool true) rfl rfl (fun w0 hS => (by skip; clear hS; go_simp; try rfl)) ?_
      simp only [Act.put,nAq,nBq,nCq]
      iterate 3
       refine plan_look rfl rfl (fun w0 hS => (by clear hS; go_simp; try rfl)) ?_
       simp only [Act.put,nAq,nBq,nCq]
      refine plan_look (v:=.int .i64 x) rfl rfl (fun w0 hS => (by have c1:=HCX.out w0 hS; clear hS; go_simp; try rfl)) ?_
      simp only [Act.put,nAq,nBq,nCq]
      iterate 2
       refine plan_look rfl rfl (fun w0 hS => (by clear hS; go_simp; try rfl)) ?_
       simp only [Act.put,nAq,nBq,nCq]
      refine plan_look (v:=.int .i64 (i:Int)) rfl rfl (fun w0 hS => (by skip; clear hS; go_simp; try rfl)) ?_
      simp only [Act.put,nAq,nBq,nCq]
      iterate 1
       refine plan_look rfl rfl (fun w0 hS => (by clear hS; go_simp; try rfl)) ?_
       simp only [Act.put,nAq,nBq,nCq]
      refine plan_look (v:=.int .i64 y) rfl rfl (fun w0 hS => (by have c1:=HCY.out w0 hS; clear hS; go_simp; try rfl)) ?_
      simp only [Act.put,nAq,nBq,nCq]
      refine plan_look (v:=.bool false) rfl rfl (fun w0 hS => (by skip; clear hS; go_simp; try rfl)) ?_
      simp only [Act.put,nAq,nBq,nCq]
      refine plan_look (v:=.bool false) rfl rfl (fun w0 hS => (by skip; clear hS; go_simp; try rfl)) ?_
      simp only [Act.put,nAq,nBq,nCq]
      refine plan_look (v:=.bool false) rfl rfl (fun w0 hS => (by skip; clear hS; go_simp; try rfl)) ?_
      simp only [Act.put,nAq,nBq,nCq]
      refine plan_end ?_; simp only [List.drop_succ_cons,List.drop_zero]
      go_wp2
      refine NoPanic.normal ?_
      go_wp2
      go_roundg (nd' - (q + 1))
      case measure => omega
      exact ⟨q + 1,by omega,rfl,by go_num,HA.out.trans H5.out (fun _ => fEq)⟩
    obtain rfl:q = nd':=by omega
    have hqz:¬ (q:Int) < (q:Int):=by omega
    clear hA hrk
    go_wp2
    go_ret
    exact ⟨rfl,(H2.out.2.1.trans HQ.out.2.2.2.1 (fun _ => fEq)).trans HA.out (fun _ => fEq)⟩
  have hcc:ec ≠ 0:=fun h0 => hbad (by
   rw [HF.out.1.2,HF.out.2.1.2, ← chk_two, ← HF.out.2.2.1.2]
   exact h0)
  have hlc:nc = 0:=by
   have h:=HF.out.2.2.1.1.resolve_right (fun h => hcc h.1)
   have:=HR.out.2.2.2.1.2
   rw [h.2] at this
   exact this.symm
  have hld:nd' = 0:=by
   have h:=HF.out.2.2.2.resolve_right (fun h => hcc h.1)
   have:=HR.out.2.2.2.2.2
   rw [h.2] at this
   exact this.symm
  subst hlc hld
  have bc:(ec != 0) = true:=by simpa using hcc
  clear hcc
  by_cases h0:ea = 0
  · have hb0:eb ≠ 0:=fun h => hbad ⟨h0,h⟩
    have bb:(eb != 0) = true:=by simpa using hb0
    have b0:(ea != 0) = false:=by simpa using h0
    have HX:=(hIq h0 (aIq hb0 hbad))
    clear h0 hb0 hbad
    go_wp2
    go_ret
    exact ⟨rfl,H2.out.2.1.trans HR.out.1 (fun _ => fEq)⟩
  have b0:(ea != 0) = true:=by simpa using h0
  clear h0 hbad
  go_wp2
  go_ret
  exact ⟨rfl,H2.out.2.1.trans HR.out.1 (fun _ => fEq)⟩
end
end Go.Proofs.YtmeglndnkdgkoaaGreat.Store

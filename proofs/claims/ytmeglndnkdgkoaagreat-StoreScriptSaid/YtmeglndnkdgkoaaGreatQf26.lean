/- Laws of the layers below. -/
import Derived.Test.YtmeglndnkdgkoaaGreatQf25
import Derived.Test.YtmeglndnkdgkoaaGreatQf22
set_option maxHeartbeats 3200000
set_option maxRecDepth 100000
set_option linter.unusedVariables false
namespace Go.Proofs.YtmeglndnkdgkoaaGreat.Store
open Go.RowKit Go.Proofs.YtmeglndnkdgkoaaGreat.ShaW Go.Proofs.YtmeglndnkdgkoaaGreat.Path Go.Proofs.YtmeglndnkdgkoaaGreat.Law9
theorem planG_gload {P:Program} {S:World → Prop} {Q:Exit → Act → World → Prop} {l:List Oper} {f n i:Nat} {q r:List (Nat × Bool)} {a:Act} {w:World} {o:Oper} (ho:l[i]? = some o) (hw:Region.wanted o (yielded l.toArray a.tmps) = true) (ty:TypeId) (x:Operand) (hop:o.op = .load ty x) (g off k:Nat) (hx:a.eval x = .pointer (some ⟨g,off,none⟩))
 {t:TypeId} {cur:Array Value} {fr:Nat × Nat} {d:TypeDesc} (hg:∀ w0,S w0 → w0.heap[g]? = some (.cells cur t fr)) (hu:P.underlying ty = some d) (hd:d.isRow = true) (hi:(P.info? ty).map (·.size) = some k) (hfit:off + k ≤ cur.size) (cs:Array Value) (hv:cur.extract off (off + k) = cs)
 (h:wpPlanG P l Q f S n q r (a.put o.dst (.agg cs)) w):wpPlanG P l Q f S n q ((i,false) :: r) a w :=
 planG_look ho hw (fun w0 hS => by
  unfold execOp
  simp only [hop,hx,Instr.loadAt,Instr.sureAddr,Sem.run_bind,Sem.run_pure,Result.andThen_ok,run_load_part w0 (hg w0 hS) hu hd hi hfit,hv]) h
theorem rep_any {σ:SlabSt Nd} (G:Good σ) {n:Int} {s:Nd × Nat} (hs:σ.get? n = some s):∃ (d:Nat) (t:Tr),Rep (sk σ) n d t ∧ (s.1.kind = 2 → s.1.depth = (d:Int) ∧ d ≤ 255):=by
 by_cases h2:s.1.kind = 2
 · have hi:=G.fit.inner (sk_some hs) h2
   have h0:0 ≤ s.1.depth:=hi.d0
   have h1:s.1.depth ≤ 255:=hi.d1
   obtain ⟨d,hd⟩:∃ d:Nat,s.1.depth = (d:Int):=⟨s.1.depth.toNat,by omega⟩
   obtain ⟨t,ht⟩:=Rep.ex G.fit (256 - d) d n (by omega) (.inr ⟨_,sk_some hs,fun _ => hd⟩)
   exact ⟨d,t,ht,fun _ => ⟨hd,by omega⟩⟩
 obtain ⟨t,ht⟩:=Rep.ex G.fit 256 0 n rfl (.inr ⟨_,sk_some hs,fun e => absurd e h2⟩)
 exact ⟨0,t,ht,fun e => absurd e h2⟩
theorem key_first {σ:SlabSt Nd} (G:Good σ) {n:Int} {s:Nd × Nat} (hs:σ.get? n = some s) (h2:s.1.kind = 2) {d:Nat} {t:Tr} (hr:Rep (sk σ) n d t) (hd:s.1.depth = (d:Int)) (hd2:d ≤ 255) {e:List UInt8 × List UInt8} (he:e ∈ t.ents):Path.first e.1 d = s.1.key:=by
 obtain ⟨hl,hp,_⟩:=hr.near G.fit e he
 rw [ndF_some (sk_some hs)] at hp
 have hi:=G.fit.inner (sk_some hs) h2
 have hk:s.1.key = Path.first (if s.1.left = 0 then (ndF (sk σ) s.1.right).key else (ndF (sk σ) s.1.left).key) s.1.depth:=hi.key
 have hkl:s.1.key.length = 32:=hi.len
 rw [hd] at hk
 refine pre_all (by rw [first_length]; exact hl) hkl (fun j hj => ?_)
 by_cases c:j < d
 · rw [first_bit e.1 d j c]
   exact hp j c
 rw [first_zero hl hj (by omega),hk,first_zero (by rw [hk,first_length] at hkl; exact hkl) hj (by omega)]
section
variable {w w' : World} {b : Nat} {F : Nat → Prop} {ρ : Rs} {σ : SlabSt Nd}
theorem REntries_none (h:RAt w b F ρ) {n:Int} (hz0:ρ.sp n = Sp.zero) :
 Calls Tryz.prog 106 #[.pointer (some ⟨b,0,none⟩),.int .i64 n] w fun e w' => e = .returned (.slice none 0 0) ∧ Adds w w':=by
 have hg:=Rat_ok h n
 rw [hz0] at hg
 obtain ⟨Z,hZ⟩:∃ Z,Z = Sp.zero.cells:=⟨_,rfl⟩
 have hzs:=zeroSp
 rw [← hZ] at hg hzs
 have k0:Z[0]? = some (.int .u8 0):=by rw [hZ]; rfl
 have HZ:=(hIq hzs (by rw [hZ]; exact ⟨Sp.cells_size Sp.zero_ok,Sp.cells_one Sp.zero_ok⟩:Z.size = 39 ∧ ∀ v ∈ Z.toList,v.oneCell' = true))
 have HG:=Lib.hid hg
 have K0:=Lib.hid k0
 clear hg hz0 hZ hzs h k0
 go_enter Tryz.func106,Tryz.ntmps106
 go_wp2_with fail
 refine HG.out.mono ?_; rintro e w1 ⟨rfl,a1⟩
 have c0:=row_cell (row_setRow_same (heap_alloc_new w1 (.cells Z 198)) Z) K0.out
 have A1:=Lib.hid a1
 clear a1
 go_wp2_with (first
  | fail
  | ((with_reducible show zOq (.alloc 198)); refine wpList_alloc_is rfl 198 rfl (.agg Z) HZ.out.1 ?_; dsimp only [Value.cells]; try simp only [World.size_alloc])
  | ((with_reducible show zOq (.store 198 _ _)); refine wpList_store_part rfl 198 _ _ rfl w1.heap.size 0 Z rfl rfl (heap_alloc_new _ _) (by rw [sizeSp,HZ.out.2.1]) (by omega) HZ.out.2.2 Z (by rw [splice_all _ _ rfl]) ?_))
 go_ret
 exact ⟨rfl,(A1.out.alloc _).setRow (.inr A1.out.size) _⟩
theorem RSize_ok (h:RAt w b F ρ) (L:Lk σ ρ) (G:Good σ) (n:Int) :
 Calls Tryz.prog 149 #[.pointer (some ⟨b,0,none⟩),.int .i64 n] w fun e w' => e = .returned (.int .i64 (nd σ n).size) ∧ Adds w w':=by
 cases hs:σ.get? n with
 | none =>
  have HE:=Lib.hid (REntries_none h (L.none hs))
  rw [nd_none hs]
  clear h L G hs
  go_enter Tryz.func149,Tryz.ntmps149
  go_wp2_with fail
  refine HE.out.mono ?_; rintro e w1 ⟨rfl,a1⟩
  go_wp2
  go_ret
  exact ⟨rfl,a1⟩
 | some s =>
  obtain ⟨d,t,hr,_⟩:=rep_any G hs
  have hsz:=hr.size G.fit
  rw [ndF_sk] at hsz
  have hle:=ents_le G hr
  have hrm:σ.slots.length ≤ 65536:=Nat.le_trans G.sound.wf.len G.sound.wf.room.2
  rw [← t.ents_length] at hsz
  have HE:=Lib.hid (REntries_ok L G hr h)
  have hwr:wrap64 ((t.ents.length:Nat):Int) = (t.ents.length:Int):=by unfold wrap64; omega
  rw [hwr] at hsz
  have hsz':(nd σ n).size = (t.ents.length:Int):=hsz
  rw [hsz']
  clear h L G hs hr hle hrm hwr hsz hsz'
  go_enter Tryz.func149,Tryz.ntmps149
  go_wp2_with fail
  refine HE.out.mono ?_; rintro e w1 ⟨v,out,rfl,hp,he,hn,hx,a1⟩
  obtain ⟨ao,cap,rfl⟩:=owns_form hp
  have hl:out.length = t.ents.length:=by rw [← he,List.length_map]
  rw [hl]
  have A1:=Lib.hid a1
  clear hp he hn hx a1 hl
  go_wp2
  go_ret
  exact ⟨rfl,A1.out⟩
def KeyAt (w:World) (g:Nat) (cur Z:Array Value) (wz:World):Prop:=wz.heap[g]? = some (.cells cur 159 (0,0)) ∧ wz.heap[w.heap.size]? = some (.cells Z 31 (0,0)) ∧ Adds w wz
theorem KeyAt.adds {g:Nat} {cur Z:Array Value} {wz wy:World} (h:KeyAt w g cur Z wz) (a:Adds wz wy):KeyAt w g cur Z wy:=⟨a.row h.1 id,a.row h.2.1 id,h.2.2.trans a (fun _ => fEq)⟩
theorem KeyAt.drew {g:Nat} {cur Z:Array Value} {wz:World} (h:KeyAt w g cur Z wz):KeyAt w g cur Z wz.drew:=h.adds (Ch.refl _ _).drew
theorem RKey_inner (h:RAt w b F ρ) (L:Lk σ ρ) (G:Good σ) {n:Int} {s:Nd × Nat} (hs:σ.get? n = some s) (h2:s.1.kind = 2) :
 Calls Tryz.prog 153 #[.pointer (some ⟨b,0,none⟩),.int .i64 n] w fun e w' => e = .returned (.agg (brow s.1.key)) ∧ Adds w w':=by
 obtain ⟨d,t,hrep,hdd⟩:=rep_any G hs
 obtain ⟨hd,hd2⟩:=hdd h2
 have hkf:=fun e he => key_first G hs h2 hrep hd hd2 (e:=e) he
 have hne:=(Rep.many G.fit hrep).1 (G.fit.ne (sk_some hs))
 obtain ⟨m,x,rfl,_,_,hx,_,hsp,hkx,_,_,_,_,_,hdx,_,_⟩:=L.some G hs
 have hok:=(h.1.nums x (List.mem_of_getElem? hx)).1
 obtain ⟨Z,hZ⟩:∃ Z,Z = brow (List.replicate 32 0):=⟨_,rfl⟩
 have hzp:=zeroP
 rw [← hZ] at hzp
 have hZs:Z.size = 32:=by rw [hZ]; rfl
 obtain ⟨Z3,hZ3⟩:∃ Z,Z = brow (List.replicate 32 0):=⟨_,rfl⟩
 have hz3:=zeroB32
 rw [← hZ3] at hz3
 have HZ3:=(hIq hz3 (aIq (by rw [hZ3]; rfl:Z3.size = 32) trivial))
 have a0:Adds w (w.alloc (.cells Z 31)):=(Ch.refl _ w).alloc _
 have hE:=REntries_ok L G hrep (h.adds a0)
 have hg:=fun w1 (a:Adds w w1) => Rat_ok (h.adds a) ((m:Int) + 1)
 rw [hsp] at hg
 obtain ⟨N,hN⟩:∃ N,N = x.cells:=⟨_,rfl⟩
 have k0:N[0]? = some (.int .u8 2):=by rw [hN,Sp.at_kind,hkx,h2]; rfl
 have k1:N[1]? = some (.int .i64 (d:Int)):=by rw [hN,Sp.at_d,hdx h2,hd]
 rw [← hN] at hg
 have hfk:=fun w => run_field_one (P:=Tryz.prog) (w:=w) Tryz.underlying198 (i:=0) rfl (Tryz.isAgg121 w) k0
 obtain ⟨dp,hdp⟩:∃ dp:Int,dp = (d:Int):=⟨_,rfl⟩
 rw [← hdp] at k1
 have hfd:=fun w => run_field_one (P:=Tryz.prog) (w:=w) Tryz.underlying198 (i:=1) rfl (Tryz.isAgg3 w) k1
 have HE:=Lib.hid hE
 have HG:=Lib.hid hg
 have HZ:=(hIq hzp hZs)
 have HA0:=Lib.hid a0
 have HFD:=Lib.hid hfd
 obtain ⟨K2,hK2⟩:∃ K,K = brow s.1.key:=⟨_,rfl⟩
 have hkl:s.1.key.length = 32:=(G.fit.all _ _ (sk_some hs)).key
 have hK2s:K2.size = 32 ∧ ∀ v ∈ K2.toList,v.oneCell' = true:=by rw [hK2]; exact ⟨by rw [brow_size,hkl],brow_ones _⟩
 have HK2:=(hIq hK2 hK2s)
 rw [← hK2]
 have HKF:=(hIq hkf (aIq hne (aIq hd2 hdp)))
 clear hE hg hzp hZs a0 hN k0 k1 hrep h hZ hK2 hkl hK2s hkf hne hZ3 hz3 hfd hdd hd hd2 hdp hx hsp hkx hdx hok h2 hs L G
 go_enter Tryz.func153,Tryz.ntmps153
 go_wp2_with (first
  | fail
  | ((with_reducible show zOq (.alloc 31)); refine wpList_alloc_is rfl 31 rfl (.agg Z) HZ.out.1 ?_; dsimp only [Value.cells]; try simp only [World.size_alloc]))
 refine HE.out.mono ?_; rintro e w1 ⟨v,out,rfl,hp,he,hn,hx,a1⟩
 obtain ⟨p,l,rfl⟩:∃ p l,out = p :: l:=by
  cases out with
  | nil => have:=HKF.out.2.1; rw [← he] at this; simp at this
  | cons p l => exact ⟨p,l,rfl⟩
 have hpe:Path.first p.key d = s.1.key:=HKF.out.1 p.ent (by rw [← he]; exact List.mem_cons_self ..)
 have hpl:p.key.length = 32:=(hx p (List.mem_cons_self ..)).1
 obtain ⟨g,cap,cur,rfl,e2,e3,e4,e5,e6⟩:=owns_block hp (by simp)
 have hfi:=fun w1 => Filled_ok p.key hpl d (by have:=HKF.out.2.2.1; omega) w1
 obtain ⟨K,hK⟩:∃ K,K = brow p.key:=⟨_,rfl⟩
 rw [hpe, ← HK2.out.1, ← hK, ← HKF.out.2.2.2] at hfi
 have hcur:cur.extract 0 (0 + 32) = K:=by
  have h1:(cur.toList.take ((p :: l).length * 33)).take 32 = (flatP (p :: l)).take 32:=congrArg (List.take 32) e6
  have h2:(flatP (p :: l)).take 32 = p.key.map bv:=by
   show (p.cells.toList ++ flatP l).take 32 = _
   rw [Pr.list,List.append_assoc,List.take_append_of_le_length (by simp [hpl]),List.take_of_length_le (by simp [hpl])]
  rw [List.take_take,h2,Nat.min_eq_left (by simp; omega)] at h1
  apply Array.ext'
  rw [Array.toList_extract,hK]
  simpa [List.extract,brow] using h1
 obtain ⟨ln,hln⟩:∃ ln,ln = (p :: l).length:=⟨_,rfl⟩
 have hl9:0 < ln:=by rw [hln]; exact Nat.succ_pos _
 have hl0:((ln:Int) == 0) = false:=by simpa using (show ¬ (ln:Int) = 0 by omega)
 have hlp:(0:Int) < (ln:Int):=by omega
 rw [← hln] at e3 ⊢
 have hln1:1 ≤ ln:=by omega
 have KA:KeyAt w g cur Z w1:=⟨e2,a1.row (heap_alloc_new w (.cells Z 31)) id,HA0.out.trans a1 (fun _ => fEq)⟩
 have HKA:=Lib.hid KA
 have HCU:=(hIq (by omega:0 + 32 ≤ cur.size) hcur)
 have HFI:=Lib.hid hfi
 clear hp he hn hx a1 hpe hpl e2 e3 e4 e5 e6 hfi hK hcur hln KA hln1
 go_wp2_with fail
 refine (HG.out _ HKA.out.2.2).mono ?_; rintro e w4 ⟨rfl,a4⟩
 have H4:=Lib.hid (HKA.out.adds a4)
 clear a4
 go_upto_region 6 with fail
 try simp only [Act.put]
 go_cut [6,7] (fun s6 s7 wx => ∃ tb,s6 = .pointer (some ⟨tb,0,none⟩) ∧ wx.heap[tb]? = some (.cells K2 30 (0,0)) ∧ KeyAt w g cur Z wx)
 case first =>
  refine wp_region_planG 12 (KeyAt w g cur Z) 14 [(0,false),(1,false),(2,false),(3,false),(4,false),(5,false),(6,true),(7,false),(8,true),(9,false),(10,false),(11,false)] [(13,true)] (by kernel_rfl) (by kernel_rfl) ?_ ?_
  · exact H4.out.drew
  refine planG_look rfl rfl (fun w0 hS => (by clear hS; go_simp; try rfl)) ?_
  simp only [Act.put,nAq,nBq,nCq]
  iterate 2
   refine planG_look rfl rfl (fun w0 hS => (by clear hS; go_simp; try rfl)) ?_
   simp only [Act.put,nAq,nBq,nCq]
  refine planG_gload (cur:=cur) (t:=159) (fr:=(0,0)) rfl rfl 31 (.tmp 27) rfl g 0 32 rfl (fun w0 hS => hS.1) Tryz.underlying31 rfl sizeP HCU.out.1 K HCU.out.2 ?_
  simp only [Act.put,nAq,nBq,nCq]
  iterate 2
   refine planG_look rfl rfl (fun w0 hS => (by clear hS; go_simp; try rfl)) ?_
   simp only [Act.put,nAq,nBq,nCq]
  refine planG_do rfl rfl ?_ ?_
  · go_wp2_with fail
    refine (HG.out _ H4.out.drew.2.2).mono ?_; rintro e w5 ⟨rfl,a⟩
    have H5:=Lib.hid (KeyAt.adds H4.out.drew a)
    clear a
    dsimp only
    go_step
    refine wpList_nil ?_
    change _ ∧ _
    refine ⟨H5.out,?_⟩
    refine planG_look (v:=.int .i64 dp) rfl rfl (fun w0 hS => (by have q:=HFD.out w0; clear hS; go_simp; try rfl)) ?_
    simp only [Act.put,nAq,nBq,nCq]
    refine planG_do rfl rfl ?_ ?_
    · go_wp2_with fail
      refine (HFI.out _).mono ?_; rintro e w6 ⟨rfl,a⟩
      have H6:=Lib.hid (KeyAt.adds H5.out a)
      clear a
      dsimp only
      go_step
      refine wpList_nil ?_
      change _ ∧ _
      refine ⟨H6.out,?_⟩
      iterate 3
       refine planG_look rfl rfl (fun w0 hS => (by clear hS; go_simp; try rfl)) ?_
       simp only [Act.put,nAq,nBq,nCq]
      refine planG_last rfl ?_
      go_wp2_with (first
       | fail
       | ((with_reducible show zOq (.alloc 30)); refine wpList_alloc_is rfl 30 rfl (.agg Z3) HZ3.out.1 ?_; dsimp only [Value.cells]; try simp only [World.size_alloc]))
      refine ⟨H6.out.adds ((Ch.refl _ _).alloc _),?_⟩
      refine plan_do rfl ?_
      go_wp2_with (first
       | fail
       | ((with_reducible show zOq (.store 30 _ _)); refine wpList_store_part rfl 30 _ _ rfl w6.heap.size 0 K2 rfl rfl (heap_alloc_new _ _) (by rw [sizeB32,HK2.out.2.1]) (by rw [HK2.out.2.1,HZ3.out.2.1]; omega) HK2.out.2.2 K2 (by rw [splice_all _ _ (by rw [Array.length_toList,Array.length_toList,HK2.out.2.1,HZ3.out.2.1])]) ?_))
      refine ⟨(H6.out.adds (((Ch.refl _ _).alloc _).setRow (.inr (Nat.le_refl _)) _)),?_⟩
      refine plan_end ?_; simp only [List.drop_succ_cons,List.drop_zero]
      go_wp2
      refine NoPanic.normal ?_
      go_wp2
      go_meet
      exact ⟨w6.heap.size,rfl,row_setRow_same (heap_alloc_new _ _) _,(H6.out.adds (((Ch.refl _ _).alloc _).setRow (.inr (Nat.le_refl _)) _))⟩
    go_wp2_with (first
     | fail
     | ((with_reducible show zOq (.alloc 30)); refine wpList_alloc_is rfl 30 rfl (.agg Z3) HZ3.out.1 ?_; dsimp only [Value.cells]; try simp only [World.size_alloc]))
    refine ⟨H5.out.adds ((Ch.refl _ _).alloc _),?_⟩
    refine plan_do rfl ?_
    go_wp2_with fail
    refine (HFI.out _).mono ?_; rintro e w6 ⟨rfl,a⟩
    have H6:=(hIq (KeyAt.adds (H5.out.adds ((Ch.refl _ _).alloc (.cells Z3 30))) a) (aIq (a.row (heap_alloc_new w5 (.cells Z3 30)) id) (fun Z' => KeyAt.adds H5.out (((Ch.refl (fun _ => False) w5).alloc (.cells Z3 30)).trans a (fun _ => fEq) |>.setRow (.inr (Nat.le_refl _)) Z'))))
    clear a
    dsimp only
    go_step
    refine wpList_nil ?_
    change _ ∧ _
    refine ⟨H6.out.1,?_⟩
    iterate 3
     refine plan_look rfl rfl (fun w0 hS => (by clear hS; go_simp; try rfl)) ?_
     simp only [Act.put,nAq,nBq,nCq]
    refine plan_do rfl ?_
    go_wp2_with (first
     | fail
     | ((with_reducible show zOq (.store 30 _ _)); refine wpList_store_part rfl 30 _ _ rfl w5.heap.size 0 K2 rfl rfl H6.out.2.1 (by rw [sizeB32,HK2.out.2.1]) (by rw [HK2.out.2.1,HZ3.out.2.1]; omega) HK2.out.2.2 K2 (by rw [splice_all _ _ (by rw [Array.length_toList,Array.length_toList,HK2.out.2.1,HZ3.out.2.1])]) ?_))
    refine ⟨(H6.out.2.2 _),?_⟩
    refine plan_end ?_; simp only [List.drop_succ_cons,List.drop_zero]
    go_wp2
    refine NoPanic.normal ?_
    go_wp2
    go_meet
    exact ⟨w5.heap.size,rfl,row_setRow_same H6.out.2.1 _,(H6.out.2.2 _)⟩
  go_wp2_with (first
   | fail
   | ((with_reducible show zOq (.alloc 30)); refine wpList_alloc_is rfl 30 rfl (.agg Z3) HZ3.out.1 ?_; dsimp only [Value.cells]; try simp only [World.size_alloc]))
  refine ⟨H4.out.drew.adds ((Ch.refl _ _).alloc _),?_⟩
  refine plan_do rfl ?_
  go_wp2_with fail
  refine (HG.out _ (H4.out.drew.adds ((Ch.refl _ _).alloc (.cells Z3 30))).2.2).mono ?_; rintro e w5 ⟨rfl,a⟩
  have H5:=(hIq (KeyAt.adds (H4.out.drew.adds ((Ch.refl _ _).alloc (.cells Z3 30))) a) (aIq (a.row (heap_alloc_new w4.drew (.cells Z3 30)) id) (((Ch.refl (fun _ => False) w4.drew).alloc (.cells Z3 30)).trans a (fun _ => fEq))))
  clear a
  dsimp only
  go_step
  refine wpList_nil ?_
  change _ ∧ _
  refine ⟨H5.out.1,?_⟩
  refine plan_look (v:=.int .i64 dp) rfl rfl (fun w0 hS => (by have q:=HFD.out w0; clear hS; go_simp; try rfl)) ?_
  simp only [Act.put,nAq,nBq,nCq]
  refine plan_do rfl ?_
  go_wp2_with fail
  refine (HFI.out _).mono ?_; rintro e w6 ⟨rfl,a⟩
  have H6:=(hIq (KeyAt.adds H5.out.1 a) (aIq (a.row H5.out.2.1 id) (fun Z' => KeyAt.adds H4.out.drew ((H5.out.2.2.trans a (fun _ => fEq)).setRow (.inr (Nat.le_refl _)) Z'))))
  clear a
  dsimp only
  go_step
  refine wpList_nil ?_
  change _ ∧ _
  refine ⟨H6.out.1,?_⟩
  iterate 3
   refine plan_look rfl rfl (fun w0 hS => (by clear hS; go_simp; try rfl)) ?_
   simp only [Act.put,nAq,nBq,nCq]
  refine plan_do rfl ?_
  go_wp2_with (first
   | fail
   | ((with_reducible show zOq (.store 30 _ _)); refine wpList_store_part rfl 30 _ _ rfl w4.drew.heap.size 0 K2 rfl rfl H6.out.2.1 (by rw [sizeB32,HK2.out.2.1]) (by rw [HK2.out.2.1,HZ3.out.2.1]; omega) HK2.out.2.2 K2 (by rw [splice_all _ _ (by rw [Array.length_toList,Array.length_toList,HK2.out.2.1,HZ3.out.2.1])]) ?_))
  refine ⟨(H6.out.2.2 _),?_⟩
  refine plan_end ?_; simp only [List.drop_succ_cons,List.drop_zero]
  go_wp2
  refine NoPanic.normal ?_
  go_wp2
  go_meet
  exact ⟨w4.drew.heap.size,rfl,row_setRow_same H6.out.2.1 _,(H6.out.2.2 _)⟩
 obtain ⟨tb,rfl,r9,h9⟩:=hcut
 have H9:=(hIq r9 h9)
 have hlt9:=row_lt h9.2.1
 clear r9 h9
 go_wp2_with (first
  | fail
  | ((with_reducible show zOq (.load 30 _)); refine wpList_load_part rfl 30 _ rfl tb 0 rfl H9.out.1 Tryz.underlying30 rfl sizeB32 (by rw [HK2.out.2.1]; omega) K2 (by simp [← HK2.out.2.1]) ?_)
  | ((with_reducible show zOq (.store 31 _ _)); refine wpList_store_part rfl 31 _ _ rfl w.heap.size 0 K2 rfl rfl H9.out.2.2.1 (by rw [sizeP,HK2.out.2.1]) (by rw [HK2.out.2.1,HZ.out.2]; omega) HK2.out.2.2 K2 (by rw [splice_all _ _ (by rw [Array.length_toList,Array.length_toList,HK2.out.2.1,HZ.out.2])]) ?_))
 exact bodyPost_ret_cell1 (p:=4) rfl rfl (row_setRow_same H9.out.2.2.1 _) Tryz.underlying31 rfl (by rw [sizeP,HK2.out.2.1]) rfl ⟨by rw [HK2.out.1],H9.out.2.2.2.setRow (.inr (Nat.le_refl _)) _⟩
end
end Go.Proofs.YtmeglndnkdgkoaaGreat.Store
namespace Go.Proofs.YtmeglndnkdgkoaaGreat.Store
open Go.RowKit Go.Proofs.YtmeglndnkdgkoaaGreat.ShaW Go.Proofs.YtmeglndnkdgkoaaGreat.Path
section
variable {w0 w w' : World} {b : Nat} {σ : SlabSt Nd} {F G : Nat → Prop}
theorem ROw.value (h:ROw w0 w b σ G) (GG:Good σ) (n:Int):Calls Tryz.prog 156 #[.pointer (some ⟨b,0,none⟩),.int .i64 n] w fun e w' => ∃ v,e = .returned v ∧ Bytes w' v (nd σ n).value ∧ (∀ k,v.ownBlock = some k → w0.heap.size ≤ k ∧ ¬ G k) ∧ Adds w w':=by
 obtain ⟨ρ,F,h1,L,h2,h3,h4⟩:=h
 exact (RValue_ok h1 L GG n).mono fun e w' ⟨v,he,hb,hv,a⟩ => ⟨v,he,hb,fun k hk => ⟨h2 k (hv k hk),fun hg => (h4 k hg).1 (hv k hk)⟩,a⟩
end
end Go.Proofs.YtmeglndnkdgkoaaGreat.Store
namespace Go.Proofs.YtmeglndnkdgkoaaGreat.Store
open Go.RowKit Go.Sort Go.Proofs.YtmeglndnkdgkoaaGreat.ShaW Go.Proofs.YtmeglndnkdgkoaaGreat.Path Go.Proofs.YtmeglndnkdgkoaaGreat.Law9
def BytesRow (w:World) (n0:Nat) (v:Value) (bs:List UInt8):Prop :=
 (v = .slice none 0 0 ∧ bs = []) ∨ ∃ g c all,v = .slice (some ⟨g,0,none⟩) bs.length c ∧ n0 ≤ g ∧ w.heap[g]? = some (.cells (brow all) 5 (0,0)) ∧ all.length = c ∧ all.take bs.length = bs ∧ c ≤ maxLen ∧ bs.length ≤ c
section
variable {w w' : World} {n0 n1 : Nat} {v : Value} {bs : List UInt8}
theorem BytesRow.keep (h:BytesRow w n0 v bs) {F:Nat → Prop} (c:Ch F w w') (hd:∀ k,v.ownBlock = some k → ¬ F k):BytesRow w' n0 v bs:=by
 rcases h with h | ⟨g,cp,all,rfl,h1,h2,h3⟩
 · exact .inl h
 exact .inr ⟨g,cp,all,rfl,h1,c.row h2 (hd g rfl),h3⟩
theorem BytesRow.base (h:BytesRow w n0 v bs) (hb:∀ k,v.ownBlock = some k → n1 ≤ k):BytesRow w n1 v bs:=by
 rcases h with h | ⟨g,cp,all,rfl,h1,h2,h3⟩
 · exact .inl h
 exact .inr ⟨g,cp,all,rfl,hb g rfl,h2,h3⟩
theorem BytesRow.lt (h:BytesRow w n0 v bs):∀ k,v.ownBlock = some k → n0 ≤ k ∧ k < w.heap.size:=fun k hk => by
 rcases h with ⟨rfl,_⟩ | ⟨g,cp,all,rfl,h1,h2,_⟩
 · cases hk
 cases hk
 exact ⟨h1,row_lt h2⟩
theorem brow_take_get {all bs:List UInt8} {i:Nat} {x:UInt8} (h:all.take bs.length = bs) (hx:bs[i]? = some x):(brow all)[i]? = some (bv x):=by
 have hi:=(List.getElem?_eq_some_iff.1 hx).1
 have:all[i]? = some x:=by rw [← h,List.getElem?_take_of_lt hi] at hx; exact hx
 unfold brow
 rw [List.getElem?_toArray,List.getElem?_map,this]
 rfl
theorem BytesRow.bytes (h:BytesRow w n0 v bs):Bytes w v bs:=by
 rcases h with ⟨rfl,rfl⟩ | ⟨g,cp,all,rfl,h1,h2,h3,h4,h5,h6⟩
 · exact Bytes.nil w
 exact ⟨_,cp,rfl,h6,h5,fun j y hy => ⟨g,0,rfl,by rw [Nat.zero_add]; exact row_cell h2 (brow_take_get h4 hy)⟩⟩
end
theorem zero_bytes (k:Nat):Builtin.zeroCells #[.int .u8 0] k = brow (List.replicate k 0):=by
 unfold Builtin.zeroCells brow
 apply Array.ext'
 simp only [List.size_toArray,List.length_cons,List.length_nil,Nat.zero_add,Nat.mul_one,Array.toList_map,Array.toList_range,List.map_replicate]
 apply List.ext_getElem
 · simp
 intro i h1 h2
 simp [Nat.mod_one,bv]
theorem brow_app (a b:List UInt8):brow a ++ brow b = brow (a ++ b):=by simp [brow]
theorem run_append_copy' {P:Program} (w:World) (t ty e:TypeId) (he:e = 5) (i:TypeInfo) (ht:P.underlying t = some (.slice e)) (hi:P.info? e = some i) (hz:i.zero = some (.int .u8 0)) (hsize:i.size = 1) (hby:i.bytes = 1)
 (xv:Value) (bs:List UInt8) (hb:Bytes w xv bs) (hlen:bs.length ≤ 140737488355328) :
 ∃ v' w',(Builtin.append_ #[t,t] ty #[.slice none 0 0,xv]).run P w = .ok v' w' ∧ BytesRow w' w.heap.size v' bs ∧ Adds w w':=by
 subst he
 obtain ⟨ao,cap,rfl,hcap,hcm,hat⟩:=hb
 cases bs with
 | nil =>
  refine ⟨_,w,run_append_nothing w t t ty _ i ht hi none 0 0 (Nat.le_refl _) _ ?_,.inl ⟨rfl,rfl⟩,Ch.refl _ _⟩
  cases ao with
  | none => exact Src.ofNil w ht cap
  | some ad => exact Src.ofSlice w ht ad 0 cap [] (by simp) (fun j u h => by simp at h) (fun u h => by cases h)
 | cons x bs =>
  obtain ⟨g,off,rfl,_⟩:=hat 0 x rfl
  have hnews:∀ j u,((x :: bs).map bv)[j]? = some u → w.cell? ((⟨g,off,none⟩:Addr).add j) = some u:=fun j u hu => by
   rw [List.getElem?_map] at hu
   obtain ⟨y,hy,rfl⟩:=Option.map_eq_some_iff.1 hu
   obtain ⟨g',o',he,hc⟩:=hat j y hy
   cases he
   rw [add_plain]
   exact hc
  have hr:=run_append_nil (P:=P) w t ty _ i (.int .u8 0) ht hi hz ⟨g,off,none⟩ (x :: bs).length cap ((x :: bs).map bv) (by simp [hsize]) hnews (by simp) (by omega) (by rw [hby]; omega)
  have hge:=grownCap_ge w (x :: bs).length 0 5
  have hcm2:grownCap w (x :: bs).length 0 5 ≤ maxLen:=grownCap_le_maxLen w _ 0 _ (by unfold maxLen; omega)
  obtain ⟨C,hC⟩:∃ C,C = grownCap w (x :: bs).length 0 5:=⟨_,rfl⟩
  rw [← hC] at hr hge hcm2
  refine ⟨_,_,hr,.inr ⟨w.heap.size,C,(x :: bs) ++ List.replicate (C - (x :: bs).length) 0,rfl,Nat.le_refl _,?_,?_,?_,hcm2,hge⟩,((Ch.refl _ _).drew).alloc _⟩
  · rw [show (Value.int .u8 0).cells = #[.int .u8 0] from rfl,zero_bytes,show ((x :: bs).map bv).toArray = brow (x :: bs) from rfl,brow_app]
    exact heap_alloc_new w.drew _
  · rw [List.length_append,List.length_replicate]; omega
  exact List.take_left
theorem SameBytes_ok {w:World} {a b:Value} {xs ys:List UInt8} (ha:Bytes w a xs) (hb:Bytes w b ys) :
 Calls Tryz.prog 103 #[a,b] w fun e w' => e = .returned (.bool (decide (xs = ys))) ∧ w' = w:=by
 have c1:=conv_bytes ha
 have c2:=conv_bytes hb
 obtain ⟨ao,ca,rfl,_⟩:=ha.form
 obtain ⟨bo,cb,rfl,_⟩:=hb.form
 obtain ⟨A,hA⟩:∃ A,A = bstr xs:=⟨_,rfl⟩
 obtain ⟨B,hB⟩:∃ B,B = bstr ys:=⟨_,rfl⟩
 have hq:(A.toList == B.toList) = decide (xs = ys):=by rw [hA,hB]; exact bstr_eq xs ys
 rw [← hA] at c1
 rw [← hB] at c2
 obtain ⟨r,hr⟩:∃ r,r = decide (xs = ys):=⟨_,rfl⟩
 rw [← hr] at hq ⊢
 clear hA hB ha hb hr
 go_enter Tryz.func103,Tryz.ntmps103
 go_wp2
 go_ret
 exact ⟨by first | rw [hq] | rfl,rfl⟩
def over (x:UInt8):UInt8:=x ^^^ 90
theorem over_bits (x:UInt8):bits .xor .u8 (x.toNat:Int) 90 = ((over x).toNat:Int):=xor_byte x 90
theorem OverBytes_ok {w:World} {n0:Nat} {v:Value} {bs:List UInt8} (h:BytesRow w n0 v bs) :
 Calls Tryz.prog 64 #[v] w fun e w' => (∃ u,e = .returned u) ∧ Ch (fun k => v.ownBlock = some k) w w':=by
 rcases h with ⟨rfl,rfl⟩ | ⟨g,c,all,rfl,h1,h2,h3,h4,h5,h6⟩
 · have hs:∀ w0:World,(Instr.sliceAt 32 (.slice none 0 0) none (some (.int .i64 0)) none).run Tryz.prog w0 = .ok (.slice none 0 0) w0:=fun w0 => by kernel_rfl
   go_enter Tryz.func64,Tryz.ntmps64
   go_wp2
   go_loopw [3] (fun i wr => i = .int .i64 0 ∧ wr = w) (fun i _ => 0)
   case atStart => exact ⟨rfl,rfl⟩
   obtain ⟨rfl,rfl⟩:=hrel
   go_wp2
   go_end0
   exact ⟨⟨_,rfl⟩,Ch.refl _ _⟩
 obtain ⟨m,hm⟩:∃ m,m = bs.length:=⟨_,rfl⟩
 rw [← hm] at h6
 have hmc:m ≤ c:=h6
 have hs:∀ w0:World,(Instr.sliceAt 32 (.slice (some ⟨g,0,none⟩) m c) none (some (.int .i64 (c:Int))) none).run Tryz.prog w0 = .ok (.slice (some ⟨g,0,none⟩) c c) w0:=fun w0 => by
  have ht:Tryz.prog.underlying 32 = some (.slice (Tryz.prog.elem 32)):=by kernel_rfl
  rw [run_sliceAt_slice w0 _ _ _ _ _ ht,run_slice_h w0 _ (some ⟨g,0,none⟩) m c ht .i64 (c:Int) (by omega) (by omega)]
  obtain ⟨z,hz⟩:∃ z,(sizeOf (Tryz.prog.elem 32)).run Tryz.prog w0 = .ok z w0:=⟨1,by kernel_rfl⟩
  have e:(Value.slice (if c = 0 then some ⟨g,0,none⟩ else (some ⟨g,0,none⟩:Option Addr).map (·.add (0 * z))) (c - 0) (c - 0)) = .slice (some ⟨g,0,none⟩) c c:=by
   rw [Nat.zero_mul,Nat.sub_zero]
   congr 1
   split <;> rfl
  simp only [hz,sliced,Int.toNat_natCast,e,Result.andThen_ok]
 have hcm:(c:Int) ≤ 9223372036854775807:=by unfold maxLen at h5; omega
 have HAll:=(hIq h2 h3)
 rw [← hm]
 clear h1 h2 h3 h4 h5 h6 hm hmc
 go_enter Tryz.func64,Tryz.ntmps64
 go_wp2
 go_loopw [3] (fun i wr => ∃ (k:Nat) (l:List UInt8),k ≤ c ∧ i = .int .i64 k ∧ wr.heap[g]? = some (.cells (brow l) 5 (0,0)) ∧ l.length = c ∧ Ch (fun j => j = g) w wr) (fun i _ => c - (intOf i).toNat)
 case atStart => exact ⟨0,all,Nat.zero_le _,rfl,HAll.out.1,HAll.out.2,Ch.refl _ _⟩
 obtain ⟨k,l,hk,rfl,hrow,hl,hch⟩:=hrel
 by_cases hlt:k < c
 · obtain ⟨x,hx⟩:∃ x,l[k]? = some x:=⟨_,List.getElem?_eq_getElem (by omega)⟩
   have c1:wr.cell? ⟨g,k,none⟩ = some (bv x):=row_cell hrow (by unfold brow; rw [List.getElem?_toArray,List.getElem?_map,hx]; rfl)
   have f1:=row_free hrow k
   have hb:=over_bits x
   have hkc:(k:Int) < (c:Int):=by omega
   have hset:=row_set_same hrow k (bv (over x))
   have hbr:(brow l).setIfInBounds k (bv (over x)) = brow (l.set k (over x)):=by
    apply Array.ext'
    simp [brow,List.map_set]
   rw [hbr] at hset
   have HS:=(hIq hset (aIq hl hch))
   generalize over x = y at hb HS
   clear hrow hx hset hbr hl hch hk
   go_wp2
   go_roundw
   case rel => exact ⟨k + 1,_,by omega,by first | rfl | simp,HS.out.1,by rw [List.length_set]; exact HS.out.2.1,HS.out.2.2.setCell (p:=⟨g,k,none⟩) (.inl rfl) _⟩
   simp [intOf]; omega
 obtain rfl:k = c:=by omega
 have HC:=Lib.hid hch
 clear hrow hl hch hk hlt
 go_wp2
 go_end0
 exact ⟨⟨_,rfl⟩,HC.out.mono (fun j _ hj => by rw [hj]; rfl)⟩
end Go.Proofs.YtmeglndnkdgkoaaGreat.Store

/- Laws of the layers below. -/
import Derived.Test.YtmeglndnkdgkoaaGreatQf31
set_option maxHeartbeats 3200000
set_option maxRecDepth 100000
set_option linter.unusedVariables false
namespace Go.Proofs.YtmeglndnkdgkoaaGreat.Store
open Go.RowKit Go.Proofs.YtmeglndnkdgkoaaGreat.ShaW Go.Proofs.YtmeglndnkdgkoaaGreat.Path Go.Proofs.YtmeglndnkdgkoaaGreat.Law7
section
variable {w0 w w' : World} {s b : Nat} {σ σ' : SlabSt Nd} {G : Nat → Prop} {rm : Nat}
theorem act_hold (h:Tw w0 w s b σ (fun _ => False)) (hs:Fine rm σ) {key val:List UInt8} {vv:Value} {d a b1:Int} (hk:key.length = 32) (hvo:vv.oneCell' = true) :
 Calls Tryz.prog 17 #[.pointer (some ⟨s,0,none⟩),.pointer (some ⟨b,0,none⟩),.agg (Act7.cells ⟨2,key,vv,val,d,a,b1⟩)] w fun e w' => e = .returned (.bool true) ∧ ∃ σ',Tw w0 w' s b σ' (fun _ => False) ∧ Fine rm σ':=by
 have q0:=Act7.at_kind (x:=⟨2,key,vv,val,d,a,b1⟩)
 have q3:=Act7.at_d (x:=⟨2,key,vv,val,d,a,b1⟩) hk
 have q4:=Act7.at_a (x:=⟨2,key,vv,val,d,a,b1⟩) hk
 have q5:=Act7.at_b (x:=⟨2,key,vv,val,d,a,b1⟩) hk
 simp only at q0 q3 q4 q5
 obtain ⟨X,hX⟩:∃ X,X = Act7.cells ⟨2,key,vv,val,d,a,b1⟩:=⟨_,rfl⟩
 rw [← hX] at q0 q3 q4 q5 ⊢
 have a0:Adds w (w.alloc (.cells X 34)):=(Ch.refl _ _).alloc _
 have hx0:=heap_alloc_new w (.cells X 34)
 have c0:=row_cell hx0 q0
 have T1:Tw w0 (w.alloc (.cells X 34)) s b σ (fun k => k = w.heap.size):=h.more a0 (fun k hk => .inr ⟨by omega,by rw [World.size_alloc]; omega⟩)
 obtain ⟨w1,hw1⟩:∃ w1,w1 = w.alloc (.cells X 34):=⟨_,rfl⟩
 have HQ:=(hIq q3 (aIq q4 q5))
 have HF:=Lib.hid hs
 rw [← hw1] at hx0 T1 c0
 have c3:=row_cell hx0 q3
 have c4:=row_cell hx0 q4
 have c5:=row_cell hx0 q5
 have H1:=(hIq T1 hx0)
 have HW1:=Lib.hid hw1
 clear q0 q3 q4 q5 hX a0 hx0 T1 h hs hk hvo hw1
 go_enter Tryz.func17,Tryz.ntmps17
 have hh:=(H1.out.1.adds (Ch.refl _ _).drew).hold HF.out a
 obtain ⟨r1,hr1⟩:∃ r1,r1 = (holdS σ a).1:=⟨_,rfl⟩
 obtain ⟨σ3,hσ3⟩:∃ σ3,σ3 = (holdS σ a).2:=⟨_,rfl⟩
 have hf:=HF.out.hold a
 rw [← hσ3] at hh hf
 rw [← hr1] at hh
 have HI:=Lib.hid hh
 have HFF:=Lib.hid hf
 clear hh hf hr1 hσ3
 go_upto_region 1 with fail
 rw [← HW1.out]
 go_upto_region 20 with fail
 clear c0 c3 c4 c5
 refine wp_region_plan (fun wz => wz.heap[w.heap.size]? = some (.cells X 34 (0,0))) 8 [(0,false),(1,false),(2,false),(4,false),(5,false),(6,false),(3,true),(7,true)] (by kernel_rfl) (by kernel_rfl) ?_ ?_
 · exact row_drew H1.out.2
 iterate 2
  refine plan_look rfl rfl (fun w0 hS => (by clear hS; go_simp; try rfl)) ?_
  simp only [Act.put,nAq,nBq,nCq]
 refine plan_look (v:=.int .i64 a) rfl rfl (fun w0 hS => (by have c:=row_cell hS HQ.out.2.1; clear hS; go_simp; try rfl)) ?_
 simp only [Act.put,nAq,nBq,nCq]
 iterate 2
  refine plan_look rfl rfl (fun w0 hS => (by clear hS; go_simp; try rfl)) ?_
  simp only [Act.put,nAq,nBq,nCq]
 refine plan_look (v:=.int .i64 a) rfl rfl (fun w0 hS => (by have c:=row_cell hS HQ.out.2.1; clear hS; go_simp; try rfl)) ?_
 simp only [Act.put,nAq,nBq,nCq]
 refine plan_do rfl ?_
 go_wp2_with fail
 refine HI.out.mono ?_; rintro e w3 ⟨rfl,hB3,hdoc⟩
 have X3:=Lib.hid (hB3.row (row_drew H1.out.2) rfl)
 have HD:=Lib.hid hdoc
 clear hB3 hdoc
 dsimp only
 go_step
 refine wpList_nil ?_
 change _ ∧ _
 refine ⟨X3.out,?_⟩
 refine plan_do rfl ?_
 go_wp2_with fail
 refine (HD.out _ (Ch.refl _ _)).mono ?_; rintro e w4 ⟨rfl,T4,hB4⟩
 have H4:=(hIq T4 (hB4.row X3.out rfl))
 clear T4 hB4
 dsimp only
 go_step
 refine wpList_nil ?_
 change _ ∧ _
 refine ⟨H4.out.2,?_⟩
 refine plan_end ?_; simp only [List.drop_succ_cons,List.drop_zero]
 go_wp2
 refine NoPanic.normal ?_
 go_wp2
 go_ret
 exact ⟨rfl,_,H4.out.1.less (fun k hk => hk.elim),HFF.out⟩
theorem act_held (h:Tw w0 w s b σ (fun _ => False)) (hs:Fine rm σ) {key val:List UInt8} {vv:Value} {d a b1:Int} (hk:key.length = 32) (hvo:vv.oneCell' = true) :
 Calls Tryz.prog 17 #[.pointer (some ⟨s,0,none⟩),.pointer (some ⟨b,0,none⟩),.agg (Act7.cells ⟨5,key,vv,val,d,a,b1⟩)] w fun e w' => e = .returned (.bool true) ∧ ∃ σ',Tw w0 w' s b σ' (fun _ => False) ∧ Fine rm σ':=by
 have q0:=Act7.at_kind (x:=⟨5,key,vv,val,d,a,b1⟩)
 have q3:=Act7.at_d (x:=⟨5,key,vv,val,d,a,b1⟩) hk
 have q4:=Act7.at_a (x:=⟨5,key,vv,val,d,a,b1⟩) hk
 have q5:=Act7.at_b (x:=⟨5,key,vv,val,d,a,b1⟩) hk
 simp only at q0 q3 q4 q5
 obtain ⟨X,hX⟩:∃ X,X = Act7.cells ⟨5,key,vv,val,d,a,b1⟩:=⟨_,rfl⟩
 rw [← hX] at q0 q3 q4 q5 ⊢
 have a0:Adds w (w.alloc (.cells X 34)):=(Ch.refl _ _).alloc _
 have hx0:=heap_alloc_new w (.cells X 34)
 have c0:=row_cell hx0 q0
 have T1:Tw w0 (w.alloc (.cells X 34)) s b σ (fun k => k = w.heap.size):=h.more a0 (fun k hk => .inr ⟨by omega,by rw [World.size_alloc]; omega⟩)
 obtain ⟨w1,hw1⟩:∃ w1,w1 = w.alloc (.cells X 34):=⟨_,rfl⟩
 have HQ:=(hIq q3 (aIq q4 q5))
 have HF:=Lib.hid hs
 rw [← hw1] at hx0 T1 c0
 have c3:=row_cell hx0 q3
 have c4:=row_cell hx0 q4
 have c5:=row_cell hx0 q5
 have H1:=(hIq T1 hx0)
 have HW1:=Lib.hid hw1
 clear q0 q3 q4 q5 hX a0 hx0 T1 h hs hk hvo hw1
 go_enter Tryz.func17,Tryz.ntmps17
 have hh:=(H1.out.1.adds (Ch.refl _ _).drew).hold HF.out a
 obtain ⟨r1,hr1⟩:∃ r1,r1 = (holdS σ a).1:=⟨_,rfl⟩
 obtain ⟨σ3,hσ3⟩:∃ σ3,σ3 = (holdS σ a).2:=⟨_,rfl⟩
 have hf:=HF.out.hold a
 rw [← hσ3] at hh hf
 rw [← hr1] at hh
 have HI:=Lib.hid hh
 have HFF:=Lib.hid hf
 clear hh hf hr1 hσ3
 go_upto_region 1 with fail
 rw [← HW1.out]
 go_upto_region 10 with fail
 clear c0 c3 c4 c5
 refine wp_region_plan (fun wz => wz.heap[w.heap.size]? = some (.cells X 34 (0,0))) 20 [(0,false),(1,false),(2,false),(4,false),(5,false),(6,false),(3,true),(7,true),(8,false),(9,false),(10,false),(11,false),(12,false),(14,false),(15,false),(16,false),(13,true),(17,true),(18,false),(19,false)] (by kernel_rfl) (by kernel_rfl) ?_ ?_
 · exact row_drew H1.out.2
 iterate 2
  refine plan_look rfl rfl (fun w0 hS => (by clear hS; go_simp; try rfl)) ?_
  simp only [Act.put,nAq,nBq,nCq]
 refine plan_look (v:=.int .i64 a) rfl rfl (fun w0 hS => (by have c:=row_cell hS HQ.out.2.1; clear hS; go_simp; try rfl)) ?_
 simp only [Act.put,nAq,nBq,nCq]
 iterate 2
  refine plan_look rfl rfl (fun w0 hS => (by clear hS; go_simp; try rfl)) ?_
  simp only [Act.put,nAq,nBq,nCq]
 refine plan_look (v:=.int .i64 a) rfl rfl (fun w0 hS => (by have c:=row_cell hS HQ.out.2.1; clear hS; go_simp; try rfl)) ?_
 simp only [Act.put,nAq,nBq,nCq]
 refine plan_do rfl ?_
 go_wp2_with fail
 refine HI.out.mono ?_; rintro e w3 ⟨rfl,hB3,hdoc⟩
 have X3:=Lib.hid (hB3.row (row_drew H1.out.2) rfl)
 have HD:=Lib.hid hdoc
 clear hB3 hdoc
 dsimp only
 go_step
 refine wpList_nil ?_
 change _ ∧ _
 refine ⟨X3.out,?_⟩
 refine plan_do rfl ?_
 go_wp2_with fail
 refine (HD.out _ (Ch.refl _ _)).mono ?_; rintro e w4 ⟨rfl,T4,hB4⟩
 have H4:=(hIq T4 (hB4.row X3.out rfl))
 clear T4 hB4
 dsimp only
 go_step
 refine wpList_nil ?_
 change _ ∧ _
 refine ⟨H4.out.2,?_⟩
 have hh5:=H4.out.1.hold HFF.out b1
 obtain ⟨r5,hr5⟩:∃ r5,r5 = (holdS σ3 b1).1:=⟨_,rfl⟩
 obtain ⟨σ5,hσ5⟩:∃ σ5,σ5 = (holdS σ3 b1).2:=⟨_,rfl⟩
 have hf5:=HFF.out.hold b1
 rw [← hσ5] at hh5 hf5
 rw [← hr5] at hh5
 have HI5:=Lib.hid hh5
 have HF5:=Lib.hid hf5
 clear hh5 hf5 hr5 hσ5
 refine plan_look (v:=.bool false) rfl rfl (fun w0 hS => (by clear hS; go_simp; try rfl)) ?_
 simp only [Act.put,nAq,nBq,nCq]
 iterate 3
  refine plan_look rfl rfl (fun w0 hS => (by clear hS; go_simp; try rfl)) ?_
  simp only [Act.put,nAq,nBq,nCq]
 refine plan_look (v:=.int .i64 b1) rfl rfl (fun w0 hS => (by have c:=row_cell hS HQ.out.2.2; clear hS; go_simp; try rfl)) ?_
 simp only [Act.put,nAq,nBq,nCq]
 iterate 2
  refine plan_look rfl rfl (fun w0 hS => (by clear hS; go_simp; try rfl)) ?_
  simp only [Act.put,nAq,nBq,nCq]
 refine plan_look (v:=.int .i64 b1) rfl rfl (fun w0 hS => (by have c:=row_cell hS HQ.out.2.2; clear hS; go_simp; try rfl)) ?_
 simp only [Act.put,nAq,nBq,nCq]
 refine plan_do rfl ?_
 go_wp2_with fail
 refine HI5.out.mono ?_; rintro e w5 ⟨rfl,hB5,hdoc⟩
 have X5:=Lib.hid (hB5.row H4.out.2 rfl)
 have HD5:=Lib.hid hdoc
 clear hB5 hdoc
 dsimp only
 go_step
 refine wpList_nil ?_
 change _ ∧ _
 refine ⟨X5.out,?_⟩
 refine plan_do rfl ?_
 go_wp2_with fail
 refine (HD5.out _ (Ch.refl _ _)).mono ?_; rintro e w6 ⟨rfl,T6,hB6⟩
 have H6:=(hIq T6 (hB6.row X5.out rfl))
 clear T6 hB6
 dsimp only
 go_step
 refine wpList_nil ?_
 change _ ∧ _
 refine ⟨H6.out.2,?_⟩
 refine plan_look (v:=.bool false) rfl rfl (fun w0 hS => (by clear hS; go_simp; try rfl)) ?_
 simp only [Act.put,nAq,nBq,nCq]
 refine plan_look (v:=.bool false) rfl rfl (fun w0 hS => (by clear hS; go_simp; try rfl)) ?_
 simp only [Act.put,nAq,nBq,nCq]
 refine plan_end ?_; simp only [List.drop_succ_cons,List.drop_zero]
 go_wp2
 refine NoPanic.normal ?_
 have e3:=row_cell H6.out.2 HQ.out.1
 have e4:=row_cell H6.out.2 HQ.out.2.1
 have e5:=row_cell H6.out.2 HQ.out.2.2
 have hin:=H6.out.1.inner HF5.out d a b1
 obtain ⟨r7,hr7⟩:∃ r7,r7 = (innerS σ5 d a b1).1:=⟨_,rfl⟩
 obtain ⟨r8,hr8⟩:∃ r8,r8 = (innerS σ5 d a b1).2.1:=⟨_,rfl⟩
 obtain ⟨σ7,hσ7⟩:∃ σ7,σ7 = (innerS σ5 d a b1).2.2:=⟨_,rfl⟩
 have hf:=HF5.out.inner d a b1
 rw [← hσ7] at hin hf
 rw [← hr7, ← hr8] at hin
 have HI7:=Lib.hid hin
 have HF7:=Lib.hid hf
 clear hin hf hr7 hr8 hσ7
 go_wp2_with fail
 refine HI7.out.mono ?_; rintro e w7 ⟨rfl,hB3,hdoc⟩
 have x3:=hB3.row H6.out.2 rfl
 have f3:=row_cell x3 HQ.out.1
 have f4:=row_cell x3 HQ.out.2.1
 have f5:=row_cell x3 HQ.out.2.2
 have HD7:=Lib.hid hdoc
 clear x3 hB3 hdoc e3 e4 e5
 go_wp2_with fail
 refine HD7.out.mono ?_; rintro e w8 ⟨rfl,T8,hB4⟩
 have H8:=Lib.hid T8
 clear T8 hB4 f3 f4 f5
 go_wp2
 go_ret
 exact ⟨rfl,_,H8.out.less (fun k hk => hk.elim),HF7.out⟩
theorem act_ok (h:Tw w0 w s b σ (fun _ => False)) (hs:Fine rm σ) (x:Act7) (hx:x.Good w0) (hl:x.val.length ≤ 2000) :
 Calls Tryz.prog 17 #[.pointer (some ⟨s,0,none⟩),.pointer (some ⟨b,0,none⟩),.agg x.cells] w fun e w' => e = .returned (.bool true) ∧ ∃ σ',Tw w0 w' s b σ' (fun _ => False) ∧ Fine rm σ':=by
 obtain ⟨kind,key,vv,val,d,a,b1⟩:=x
 have hk:=hx.key
 have hvo:vv.oneCell' = true:=by
  obtain ⟨ao,cap,e,_⟩:=hx.val.form
  rw [show vv = _ from e]; rfl
 by_cases k0:kind = 0
 · subst k0; exact act_leaf h hs d a b1 hx hl
 by_cases k1:kind = 1
 · subst k1; exact act_inner h hs hk hvo
 by_cases k2:kind = 2
 · subst k2; exact act_hold h hs hk hvo
 by_cases k3:kind = 3
 · subst k3; exact act_drop h hs hk hvo
 by_cases k5:kind = 5
 · subst k5; exact act_held h hs hk hvo
 exact act_look h hs k0 k1 k2 k3 k5 hk hvo
end
theorem Rnew_bad (n:Int) (w:World) (h:n < 1 ∨ 65536 < n):Calls Tryz.prog 16 #[.int .i64 n] w fun e w' => e = .returned (.tuple #[.pointer none,.int .i64 2]) ∧ w = w':=by
 by_cases h1:n < 1
 · clear h
   go_enter Tryz.func16,Tryz.ntmps16
   go_wp2
   go_ret2
   exact ⟨rfl,rfl⟩
 have h2:(65536:Int) < n:=h.resolve_left h1
 clear h
 go_enter Tryz.func16,Tryz.ntmps16
 go_wp2
 go_ret2
 exact ⟨rfl,rfl⟩
theorem script_many (n:Int) (ao:Option Addr) (len cap:Nat) (hl:200 < len) (w:World) :
 Calls Tryz.prog 3 #[.int .i64 n,.slice ao len cap] w fun e w' => e = .returned (.bool true) ∧ Adds w w':=by
 have hl':(200:Int) < (len:Int):=by omega
 have A:=Lib.hid (Ch.refl (fun _ => False) w)
 go_enter Tryz.func3,Tryz.ntmps3
 go_wp2
 go_ret
 exact ⟨rfl,A.out⟩
theorem script_high (n:Int) (hn:60 < n) (hn2:n ≤ 65536) (ao:Option Addr) (len cap:Nat) (hl:len ≤ 200) (w:World) :
 Calls Tryz.prog 3 #[.int .i64 n,.slice ao len cap] w fun e w' => e = .returned (.bool true) ∧ Adds w w':=by
 have hl':¬ (200:Int) < (len:Int):=by omega
 have A:=Lib.hid (Ch.refl (fun _ => False) w)
 go_enter Tryz.func3,Tryz.ntmps3
 go_wp2
 go_ret
 exact ⟨rfl,A.out⟩
theorem script_bad (n:Int) (hn:n < 1 ∨ 65536 < n) (ao:Option Addr) (len cap:Nat) (hl:len ≤ 200) (w:World) :
 Calls Tryz.prog 3 #[.int .i64 n,.slice ao len cap] w fun e w' => e = .returned (.bool true) ∧ Adds w w':=by
 have hl':¬ (200:Int) < (len:Int):=by omega
 have A:=Lib.hid (Ch.refl (fun _ => False) w)
 have HI:=Lib.hid (fun w1 => New_bad n w1 hn)
 have HR:=Lib.hid (fun w1 => Rnew_bad n w1 hn)
 by_cases h1:n < 1
 · have h2:¬ (60:Int) < n:=by omega
   clear hn
   go_enter Tryz.func3,Tryz.ntmps3
   go_wp2_with fail
   refine (HI.out _).mono ?_; rintro e w1 ⟨rfl,rfl⟩
   go_wp2_with fail
   refine (HR.out _).mono ?_; rintro e w1 ⟨rfl,rfl⟩
   go_wp2
   go_ret
   exact ⟨rfl,A.out⟩
 have h2:(60:Int) < n:=by omega
 have h3:¬ n ≤ (65536:Int):=by omega
 clear hn
 go_enter Tryz.func3,Tryz.ntmps3
 go_wp2_with fail
 refine (HI.out _).mono ?_; rintro e w1 ⟨rfl,rfl⟩
 go_wp2_with fail
 refine (HR.out _).mono ?_; rintro e w1 ⟨rfl,rfl⟩
 go_wp2
 go_ret
 exact ⟨rfl,A.out⟩
theorem sizeAct7:(Tryz.prog.info? 34).map (·.size) = some 37:=by kernel_rfl
theorem script_good (n:Nat) (hn1:1 ≤ n) (hn2:n ≤ 60) (ao:Option Addr) (len cap:Nat) (hl:len ≤ 200) (w:World) (ha:ActsAt w ao len) :
 Calls Tryz.prog 3 #[.int .i64 n,.slice ao len cap] w fun e w' => e = .returned (.bool true) ∧ Adds w w':=by
 have hl':¬ (200:Int) < (len:Int):=by omega
 have hn2':¬ 60 < (n:Int):=by omega
 have HA:=Lib.hid ha
 have HN:=(hIq hn1 hn2)
 have HI:=Lib.hid (New_ok n w hn1 (by omega))
 have HR:=Lib.hid (fun w1 => Rnew_ok (n:Int) w1 (by omega) (by omega))
 clear ha hn1 hn2
 go_enter Tryz.func3,Tryz.ntmps3
 go_wp2_with fail
 refine HI.out.mono ?_; rintro e w1 ⟨s,F,rfl,hA1,hF1,a1⟩
 have H1:=(hIq hA1 (aIq hF1 a1))
 clear hA1 hF1 a1
 go_wp2_with fail
 refine (HR.out _).mono ?_; rintro e w2 ⟨b,F2,rfl,hR2,hF2,a2⟩
 have T2:Tw w w2 s b ⟨n,[],[]⟩ (fun _ => False):=by
  rw [Int.toNat_natCast] at hR2
  refine ⟨_,F,F2,H1.out.1.adds a2,hR2,Lk.new n,H1.out.2.1,fun k hk => ?_,H1.out.2.2.trans a2 (fun _ => fEq),fun k hk => hk.elim⟩
  have h1:=hF2 k hk
  have h2:=H1.out.2.2.size
  exact ⟨by omega,fun hf => by have:=At.lt H1.out.1 k hf; omega⟩
 have HT:=(hIq T2 (show Fine n ⟨n,[],[]⟩ from ⟨Good.new n HN.out.1 (by have:=HN.out.2; omega),rfl⟩))
 clear T2 hR2 hF2 a2
 go_wp2_with fail
 go_loopg [9] len (fun g s9 wr => ∃ (k:Nat) (σ:SlabSt Nd),k ≤ len ∧ g = len - k ∧ s9 = .int .i64 k ∧ Tw w wr s b σ (fun _ => False) ∧ Fine n σ)
 case atStart => exact ⟨0,_,Nat.zero_le _,rfl,rfl,HT.out.1,HT.out.2⟩
 obtain ⟨k,σ,hk,rfl,rfl,hT,hso⟩:=hrel
 have HS:=(hIq hT hso)
 clear hT hso
 by_cases hkl:k < len
 · obtain ⟨g,off,x,rfl,hx,hp⟩:=HA.out k hkl
   obtain ⟨cur,t,fr,hr,hfit,hext⟩:=hp.keep HS.out.1.world id
   have hxs:=Act7.size hx.key
   rw [hxs] at hfit hext
   obtain ⟨vo,vc,hvf,_,_⟩:=hx.val.form
   obtain ⟨vn,hvn⟩:∃ vn,vn = x.val.length:=⟨_,rfl⟩
   rw [← hvn] at hvf
   have h33:cur[off + k * 37 + 33]? = some (.slice vo vn vc):=by rw [← hvf]; exact Go.Proofs.YtmeglndnkdgkoaaGreat.Law9.extract_get (by rw [hxs]; exact hext) (Act7.at_val hx.key)
   obtain ⟨C,hC⟩:∃ C,C = x.cells:=⟨_,rfl⟩
   have hact:=fun hv => act_ok HS.out.1 HS.out.2 x hx hv
   rw [← hvn] at hact
   rw [← hC] at hext hact
   have c33:=row_cell hr h33
   have HD:=Lib.hid hact
   have HRR:=(hIq hr (aIq hfit hext))
   have hki:(k:Int) < (len:Int):=by omega
   clear hr hfit hext hact hC hx hp hxs h33 hvf hvn
   by_cases hv:2000 < vn
   · have hv':(2000:Int) < (vn:Int):=by omega
     clear HD
     go_wp2
     go_ret
     exact ⟨rfl,HS.out.1.world⟩
   have hv':¬ (2000:Int) < (vn:Int):=by omega
   have HV:=Lib.hid (by omega:vn ≤ 2000)
   clear hv
   go_wp2_with (first
    | fail
    | ((with_reducible show zOq (.load 34 _)); refine wpList_load_part rfl 34 _ rfl g (off + k * 37) rfl HRR.out.1 Tryz.underlying34 rfl sizeAct7 HRR.out.2.1 C HRR.out.2.2 ?_))
   refine (HD.out HV.out).mono ?_; rintro e w3 ⟨rfl,σ',T3,f3⟩
   have H3:=(hIq T3 f3)
   clear T3 f3
   go_wp2
   go_roundg (len - (k + 1))
   case measure => omega
   exact ⟨k + 1,σ',by omega,rfl,by go_num,H3.out.1,H3.out.2⟩
 obtain rfl:k = len:=by omega
 have hd:decide ((k:Int) < (k:Int)) = false:=by simp
 clear hkl hk
 go_wp2_with fail
 refine (HS.out.1.same HS.out.2.good).mono ?_; rintro e w3 ⟨rfl,a3⟩
 have A3:=Lib.hid (HS.out.1.world.trans a3 (fun _ => fEq))
 clear a3
 go_wp2
 go_ret
 exact ⟨rfl,A3.out⟩
theorem script7 (n:Int) (ao:Option Addr) (len cap:Nat) (w:World) (ha:ActsAt w ao len) :
 Calls Tryz.prog 3 #[.int .i64 n,.slice ao len cap] w fun e w' => e = .returned (.bool true) ∧ Adds w w':=by
 by_cases hl:200 < len
 · exact script_many n ao len cap hl w
 by_cases hb:n < 1 ∨ 65536 < n
 · exact script_bad n hb ao len cap (by omega) w
 by_cases h60:60 < n
 · exact script_high n h60 (by omega) ao len cap (by omega) w
 obtain ⟨m,rfl⟩:∃ m:Nat,n = m:=⟨n.toNat,by omega⟩
 exact script_good m (by omega) (by omega) ao len cap (by omega) w ha
end Go.Proofs.YtmeglndnkdgkoaaGreat.Store
namespace Go.Proofs.YtmeglndnkdgkoaaGreat
open Go.RowKit Go.ChangeShapes Go.WideShapes Go.ChangeAt
def InActs7 (W:World) (v:Value):Prop := ∃ ao len cap,v = .slice ao len cap ∧ Law7.ActsAt W ao len
theorem in_acts7 {H:Type} {enc:TypeId × Value → H} {W:World} {base:Nat} {v:Value} {d:DataW H} {p:List MemPlace} (hv:Value.okWide Tryz.prog W .any base 22 v)
 (h:DataW.Trod enc Tryz.prog W 0 (fun _ => true) true 22 v d p):InActs7 W v:=Law7.opened_acts hv h
end Go.Proofs.YtmeglndnkdgkoaaGreat
namespace Go.Proofs.YtmeglndnkdgkoaaGreat
open Go.RowKit Go.Proofs.YtmeglndnkdgkoaaGreat.ShaW Go.Proofs.YtmeglndnkdgkoaaGreat.Path Go.Proofs.YtmeglndnkdgkoaaGreat.Store Go.Proofs.YtmeglndnkdgkoaaGreat.Law9 Go.Deep Go.ChangeShapes Go.WideShapes Go.ChangeAt
def InPath (W:World) (v:Value):Prop := ∃ k:List UInt8,k.length = 32 ∧ v = .agg (brow k)
def InBytes (W:World) (v:Value):Prop := ∃ bs:List UInt8,Bytes W v bs ∧ (bs ≠ [] → ∀ k,v.ownBlock = some k → k < W.heap.size)
def InPairs (W:World) (v:Value):Prop := ∃ ao l cap,v = .slice ao (List.length l) cap ∧ PairsAt W ao l ∧ l.length ≤ cap

end Go.Proofs.YtmeglndnkdgkoaaGreat

/- Laws of the layers below. -/
import Derived.Test.YtmeglndnkdgkoaaGreatQf11
set_option maxHeartbeats 3200000
set_option maxRecDepth 100000
set_option linter.unusedVariables false
namespace Go.Proofs.YtmeglndnkdgkoaaGreat.Store
open Go.RowKit Go.Proofs.YtmeglndnkdgkoaaGreat.ShaW Go.Proofs.YtmeglndnkdgkoaaGreat.Path
theorem _root_.Go.World.ownsRow.base {w:World} {b b' n sz:Nat} {e:TypeId} {v:Value} {xs:List Value} (h:w.ownsRow b e sz v n xs) (hb:∀ k,v.ownBlock = some k → b' ≤ k):w.ownsRow b' e sz v n xs:=by
 refine ⟨h.1,h.2.imp id fun ⟨g,cap,cur,h1,h2,h3⟩ => ⟨g,cap,cur,h1,hb g (by rw [h1]; rfl),h3⟩⟩
theorem drop_things {α:Type} {σ:SlabSt α} {z:α} {n:Int} {m:Nat} {y:α} {c:Nat} (h:(σ.drop z n).2.2.slots[m]? = some (y,c)):y = z ∨ ∃ c',σ.slots[m]? = some (y,c'):=by
 unfold SlabSt.drop at h
 cases hs:σ.get? n with
 | none => rw [hs] at h; exact .inr ⟨c,h⟩
 | some x =>
  rw [hs] at h
  obtain ⟨m',rfl,hx,_,hl⟩:=SlabSt.get?_some hs
  simp only at h
  split at h
  · simp only [SlabSt.setAt,show ((m':Int) + 1 - 1).toNat = m' by omega] at h
    by_cases hm:m' = m
    · subst hm; rw [List.getElem?_set_self hl] at h; cases h; exact .inl rfl
    rw [List.getElem?_set_ne hm] at h; exact .inr ⟨c,h⟩
  simp only [SlabSt.setAt,show ((m':Int) + 1 - 1).toNat = m' by omega] at h
  by_cases hm:m' = m
  · subst hm; rw [List.getElem?_set_self hl] at h; cases h; exact .inr ⟨x.2,hx⟩
  rw [List.getElem?_set_ne hm] at h; exact .inr ⟨c,h⟩
theorem drop_lift {w:World} {s:Nat} {F:Nat → Prop} {σ:SlabSt Nd} (h:At w s F σ) (n:Int) :
 ∃ a,w.heap[s]? = some (.cells #[.pointer (some ⟨a,0,none⟩)] 111 (0,0)) ∧
  Calls Tryz.prog 114 #[.pointer (some ⟨a,0,none⟩),.int .i64 n] w fun e w' => e = .returned (.tuple #[.bool (σ.drop Nd.zero n).1,.int .i64 (σ.drop Nd.zero n).2.1]) ∧ Moved w w' s F (σ.drop Nd.zero n).2.2:=by
 obtain ⟨a,G,h1,h2,h3,h4,h5,h6⟩:=h
 refine ⟨a,h1,?_⟩
 have hc:=SlabN.Drop_ok h2 n
 rw [Nd.zero_enc,SlabSt.map_drop] at hc
 refine hc.mono fun e w' ⟨he,hm⟩ => ⟨he,lift h1 h4 h5 h6 hm fun m y c hs => ?_⟩
 rcases drop_things hs with rfl | ⟨c',hs'⟩
 · exact ⟨Nd.zero_ok,Bytes.nil w,fun k hk => by simp [Nd.zero,Value.ownBlock] at hk⟩
 exact h3 m y c' hs'
def il (l:List Int):List Value:=l.map fun n => Value.int .i64 n
def Mid (w:World) (s:Nat) (F:Nat → Prop) (goal:Nat × SlabSt Nd) (g:Nat) (v8 v9:Value) (wr:World):Prop :=
 ∃ (σ:SlabSt Nd) (st:List Int) (f:Nat) (F':Nat → Prop),g = 3 * total σ + st.length ∧ v8 = .int .i64 (f:Nat) ∧ wr.ownsRow w.heap.size 3 1 v9 st.length (il st.reverse) ∧
  At wr s F' σ ∧ (∀ k,F' k → F k ∨ w.heap.size ≤ k) ∧ (∀ k,v9.ownBlock = some k → ¬ F' k) ∧ Ch F w wr ∧ sweep σ st f = goal ∧ st.length + live σ ≤ 65537 ∧ f + live σ ≤ 65537
def Stk (w:World) (s:Nat) (F:Nat → Prop) (σ:SlabSt Nd) (st:List Int) (v:Value) (wx:World):Prop :=
 ∃ F2,wx.ownsRow w.heap.size 3 1 v st.length (il st.reverse) ∧ At wx s F2 σ ∧ (∀ k,F2 k → F k ∨ w.heap.size ≤ k) ∧ (∀ k,v.ownBlock = some k → ¬ F2 k) ∧ Ch F w wx
theorem Stk.owns {w wx:World} {s:Nat} {F:Nat → Prop} {σ:SlabSt Nd} {st:List Int} {v:Value} (h:Stk w s F σ st v wx):wx.ownsRow w.heap.size 3 1 v st.length (il st.reverse) ∧ w.heap.size ≤ wx.heap.size:=by
 obtain ⟨F2,h1,_,_,_,h5⟩:=h
 exact ⟨h1,h5.size⟩
theorem Stk.push {w wx w':World} {s:Nat} {F:Nat → Prop} {σ:SlabSt Nd} {st:List Int} {v v':Value} {o:Obj} {x:Int} (h:Stk w s F σ st v wx)
 (ho:w'.ownsRow w.heap.size 3 1 v' (st.length + 1) (il st.reverse ++ [.int .i64 x])) (hg:(wx.alloc o).grownBy w' v.ownBlock) (hl:v'.ownBlock = v.ownBlock ∨ v'.ownBlock = some (wx.alloc o).heap.size):Stk w s F σ (x :: st) v' w':=by
 obtain ⟨F2,h1,h2,h3,h4,h5⟩:=h
 have hc:Ch (fun k => v.ownBlock = some k) wx w':=((Ch.refl (fun k => v.ownBlock = some k) wx).alloc o).grown hg (fun k hk => .inl hk)
 refine ⟨F2,?_,h2.keep hc (fun k hk e => h4 k e hk),h3,fun k hk hf => ?_,(h5.alloc o).grown hg (fun k hk => .inr (h1.lt k hk).1)⟩
 · rw [List.length_cons,List.reverse_cons]
   simpa [il] using ho
 rcases hl with hl | hl
 · exact h4 k (by rw [← hl]; exact hk) hf
 obtain ⟨_,_,_,_,_,_,_,q6⟩:=h2
 have:=q6 k hf
 rw [hl] at hk
 simp at hk
 omega
theorem Stk.of_moved {w w5 w6:World} {s:Nat} {F F':Nat → Prop} {σ2:SlabSt Nd} {st:List Int} {v:Value} (ho:w5.ownsRow w.heap.size 3 1 v st.length (il st.reverse)) (hm:Moved w5 w6 s F' σ2) (hF:∀ k,F' k → F k ∨ w.heap.size ≤ k)
 (hv:∀ k,v.ownBlock = some k → ¬ F' k) (hc:Ch F w w5):Stk w s F σ2 st v w6:=by
 obtain ⟨F2,g1,g2,g3⟩:=hm
 refine ⟨F2,g2.owns ho (fun k hk hf => hv k hk hf),g1,fun k hk => (g3 k hk).elim (hF k) (fun h => .inr (Nat.le_trans hc.size h)),fun k hk hf => ?_,hc.trans g2 hF⟩
 rcases g3 k hf with h | h
 · exact hv k hk h
 have:=(ho.lt k hk).2; omega
theorem Stk.mid {w wx:World} {s:Nat} {F:Nat → Prop} {σ:SlabSt Nd} {st:List Int} {v:Value} {goal:Nat × SlabSt Nd} {f:Nat} (h:Stk w s F σ st v wx) (hs:sweep σ st f = goal) (h1:st.length + live σ ≤ 65537) (h2:f + live σ ≤ 65537) :
 Mid w s F goal (3 * total σ + st.length) (.int .i64 (f:Nat)) v wx:=by
 obtain ⟨F2,q1,q2,q3,q4,q5⟩:=h
 exact ⟨σ,st,f,F2,rfl,rfl,q1,q2,q3,q4,q5,hs,h1,h2⟩
theorem index_two (x y:Int) (w:World):(Instr.index 175 (.agg #[.int .i64 x,.int .i64 y]) (.int .i64 0)).run Tryz.prog w = .ok (.int .i64 x) w ∧ (Instr.index 175 (.agg #[.int .i64 x,.int .i64 y]) (.int .i64 1)).run Tryz.prog w = .ok (.int .i64 y) w:=by
 constructor <;> kernel_rfl
def pushes (r l:Int) (st:List Int):Nat → List Int
 | 0 => st
 | 1 => (if r = 0 then [] else [r]) ++ st
 | _ => (if l = 0 then [] else [l]) ++ ((if r = 0 then [] else [r]) ++ st)
theorem pushes_length (r l:Int) (st:List Int):∀ k,(pushes r l st k).length ≤ st.length + 2
 | 0 => by simp [pushes]
 | 1 => by
  show ((if r = 0 then [] else [r]) ++ st).length ≤ _
  rw [List.length_append]
  split <;> simp <;> omega
 | k + 2 => by
  show ((if l = 0 then [] else [l]) ++ ((if r = 0 then [] else [r]) ++ st)).length ≤ _
  rw [List.length_append,List.length_append]
  split <;> split <;> simp <;> omega
theorem Drop_none {w:World} {s:Nat} {F:Nat → Prop} {σ:SlabSt Nd} (h:At w s F σ) (n:Int) (hb:has σ n = false) :
 Calls Tryz.prog 39 #[.pointer (some ⟨s,0,none⟩),.int .i64 n] w fun e w' => e = .returned (.tuple #[.int .i64 0,.int .i64 7]) ∧ Adds w w':=by
 have hg:=get_ok h n
 obtain ⟨N,Z,hN,hn,hz⟩:=told h n
 rw [← hN,hb] at hg
 obtain ⟨a,G,h1,_⟩:=h
 have HR:=Lib.hid h1
 have HG:=Lib.hid hg
 have HN:=Lib.hid hn
 have HZ:=Lib.hid hz
 clear hg hN hn hz h1 hb
 go_enter Tryz.func39,Tryz.ntmps39
 go_wp2_with fail
 refine (none_no HR.out).mono ?_; rintro e w1 ⟨rfl,rfl⟩
 go_wp2_with fail
 refine HG.out.mono ?_; rintro e w1 ⟨rfl,hc1⟩
 have C1:=Lib.hid hc1
 clear hc1
 go_wp2_with (first | ((with_reducible show zOq (.alloc 123)); refine wpList_alloc_is rfl 123 rfl (.agg Z) HZ.out.1 ?_; dsimp only [Value.cells]; try simp only [World.size_alloc]) | ((with_reducible show zOq (.store 123 (.tmp 6) _)); go_must (refine wpList_store_part rfl 123 _ _ rfl w1.heap.size 0 N rfl rfl (heap_alloc_new _ _) (by rw [sizeN,HN.out.1]) (by rw [HN.out.1,HZ.out.2]; omega) HN.out.2 N (by rw [splice_all _ _ (by rw [Array.length_toList,Array.length_toList,HN.out.1,HZ.out.2])]) ?_)))
 go_ret2
 exact ⟨rfl,(C1.out.alloc _).setRow (.inr C1.out.size) _⟩
theorem Drop_held0 {w:World} {s:Nat} {F:Nat → Prop} {σ:SlabSt Nd} (h:At w s F σ) (n:Int) (hb:has σ n = true) (h0:(nd σ n).held = 0) :
 Calls Tryz.prog 39 #[.pointer (some ⟨s,0,none⟩),.int .i64 n] w fun e w' => e = .returned (.tuple #[.int .i64 0,.int .i64 7]) ∧ Adds w w':=by
 have hok:=h.ok n
 have hg:=get_ok h n
 obtain ⟨N,Z,hN,hn,hz⟩:=told h n
 rw [← hN,hb] at hg
 have k0:N[102]? = some (.int .i64 0):=by rw [hN, ← h0]; exact Nd.at_held hok
 obtain ⟨a,G,h1,_⟩:=h
 have HR:=Lib.hid h1
 have HG:=Lib.hid hg
 have HN:=Lib.hid hn
 have HZ:=Lib.hid hz
 clear hg hN hn hz h1 hb hok h0
 go_enter Tryz.func39,Tryz.ntmps39
 go_wp2_with fail
 refine (none_no HR.out).mono ?_; rintro e w1 ⟨rfl,rfl⟩
 go_wp2_with fail
 refine HG.out.mono ?_; rintro e w1 ⟨rfl,hc1⟩
 have c0:=row_cell (row_setRow_same (heap_alloc_new w1 (.cells Z 123)) N) k0
 have C1:=Lib.hid hc1
 clear hc1 k0
 go_wp2_with (first | ((with_reducible show zOq (.alloc 123)); refine wpList_alloc_is rfl 123 rfl (.agg Z) HZ.out.1 ?_; dsimp only [Value.cells]; try simp only [World.size_alloc]) | ((with_reducible show zOq (.store 123 (.tmp 6) _)); go_must (refine wpList_store_part rfl 123 _ _ rfl w1.heap.size 0 N rfl rfl (heap_alloc_new _ _) (by rw [sizeN,HN.out.1]) (by rw [HN.out.1,HZ.out.2]; omega) HN.out.2 N (by rw [splice_all _ _ (by rw [Array.length_toList,Array.length_toList,HN.out.1,HZ.out.2])]) ?_)))
 go_ret2
 exact ⟨rfl,(C1.out.alloc _).setRow (.inr C1.out.size) _⟩
theorem Drop_go {w:World} {s:Nat} {F:Nat → Prop} {σ:SlabSt Nd} (h:At w s F σ) (n:Int) (hb:has σ n = true) (h0:(nd σ n).held ≠ 0) :
 Calls Tryz.prog 39 #[.pointer (some ⟨s,0,none⟩),.int .i64 n] w fun e w' => e = .returned (.tuple #[.int .i64 ((sweep (bump σ n (-1)) [n] 0).1:Nat),.int .i64 0]) ∧ Moved w w' s F (sweep (bump σ n (-1)) [n] 0).2:=by
 have hok:=h.ok n
 have hg:=get_ok h n
 obtain ⟨N,Z,hN,hn,hz⟩:=told h n
 rw [← hN,hb] at hg
 have k0:N[102]? = some (.int .i64 (nd σ n).held):=by rw [hN]; exact Nd.at_held hok
 have e1:((nd σ n).held == 0) = false:=by simpa using h0
 have e2:decide ((nd σ n).held = 0) = false:=by simpa using h0
 generalize (nd σ n).held = hd at k0 e1 e2
 obtain ⟨goal,hgoal⟩:∃ goal,goal = sweep (bump σ n (-1)) [n] 0:=⟨_,rfl⟩
 rw [← hgoal]
 obtain ⟨i0,hi,hz0,hz1,hz2⟩:=SlabN.int_info
 have hA:=h
 obtain ⟨a,G,h1,h2,h3,h4,h5,h6⟩:=h
 have hFw:∀ k,F k → k < w.heap.size:=h6
 have HR:=Lib.hid h1
 have HG:=Lib.hid hg
 have HN:=Lib.hid hn
 have HZ:=Lib.hid hz
 have HA:=Lib.hid hA
 have HGO:=Lib.hid hgoal
 have HF:=Lib.hid hFw
 have HI:=(hIq hi (aIq hz0 (aIq hz1 hz2)))
 clear hg hN hn hz hb hok h0 hA hgoal h1 h2 h3 h4 h5 h6 hFw hi hz0 hz1 hz2
 go_enter Tryz.func39,Tryz.ntmps39
 go_wp2_with fail
 refine (none_no HR.out).mono ?_; rintro e w1 ⟨rfl,rfl⟩
 go_wp2_with fail
 refine HG.out.mono ?_; rintro e w1 ⟨rfl,hc1⟩
 have c0:=row_cell (row_setRow_same (heap_alloc_new w1 (.cells Z 123)) N) k0
 have C1:=Lib.hid hc1
 clear hc1 k0
 go_wp2_with (first | ((with_reducible show zOq (.alloc 123)); refine wpList_alloc_is rfl 123 rfl (.agg Z) HZ.out.1 ?_; dsimp only [Value.cells]; try simp only [World.size_alloc]) | ((with_reducible show zOq (.store 123 (.tmp 6) _)); go_must (refine wpList_store_part rfl 123 _ _ rfl w1.heap.size 0 N rfl rfl (heap_alloc_new _ _) (by rw [sizeN,HN.out.1]) (by rw [HN.out.1,HZ.out.2]; omega) HN.out.2 N (by rw [splice_all _ _ (by rw [Array.length_toList,Array.length_toList,HN.out.1,HZ.out.2])]) ?_)))
 have hw2:Adds w ((w1.alloc (.cells Z 123)).setRow w1.heap.size N):=(C1.out.alloc _).setRow (.inr C1.out.size) _
 refine (callers_ok (HA.out.adds hw2) n (-1)).mono ?_; rintro e w3 ⟨⟨v3,rfl⟩,hm3⟩
 have hm3':=Moved.cons (hw2.mono (G:=F) (fun _ _ h => h.elim)) (fun k hk => .inl hk) hm3
 obtain ⟨F3,hA3,hC3,hF3⟩:=hm3'
 have M3:=(hIq hA3 (aIq hC3 hF3))
 clear hm3 hA3 hC3 hF3 hw2 c0
 clear e1 e2
 go_wp2
 go_loopg [8,9] (3 * total (bump σ n (-1)) + 1) (fun g s8 s9 wr => Mid w s F goal g s8 s9 wr)
 case atStart =>
  have hsz:=M3.out.2.1.size
  have hl:=M3.out.1.len
  have hr:=M3.out.1.room
  have hlv:=live_le (bump σ n (-1))
  refine ⟨bump σ n (-1),[n],0,F3,rfl,rfl,?_,(M3.out.1.keep ((Ch.refl (fun _ => False) w3).alloc _) (fun _ _ h => h)),M3.out.2.2,fun k hk hf => ?_,M3.out.2.1.alloc _,HGO.out.symm,?_,?_⟩
  · exact (owns_mk' (heap_alloc_new _ _) (by decide) (by decide) rfl rfl).base (fun k hk => by simp [Value.ownBlock] at hk; omega)
  · obtain ⟨_,_,_,_,_,_,_,q6⟩:=M3.out.1
    have:=q6 k hf
    simp [Value.ownBlock] at hk
    omega
  · simp; omega
  simp; omega
 obtain ⟨σ',st,f,F',rfl,rfl,hown,hA,hF,hO,hC,hS,hB1,hB2⟩:=hrel
 cases st with
 | nil =>
  obtain ⟨ao,cap,rfl⟩:=owns_form hown
  rw [sweep_nil] at hS
  subst hS
  have HM:=(hIq hA (aIq hC hF))
  clear hown hA hC hF hO hB1 hB2 HGO
  simp only [List.length_nil]
  go_wp2
  go_ret2
  exact ⟨rfl,F',HM.out.1,HM.out.2.1,HM.out.2.2⟩
 | cons h' rest =>
  obtain ⟨g,cap,cur,rfl,hg1,hg2,hg3,hg4,hg5⟩:=owns_block hown (by simp)
  have hcell:wr.cell? ⟨g,rest.length,none⟩ = some (.int .i64 h'):=row_cell hg1 (take_get hg5 (by simp [il]))
  have hgw:=hown.lt g rfl
  have hgF:=hO g rfl
  have hown':wr.ownsRow w.heap.size 3 1 (.slice (some ⟨g,0,none⟩) rest.length cap) rest.length (il rest.reverse):=by
   refine (owns_mk' hg1 (by simp at hg2; omega) hg3 hg4 ?_).base (fun k hk => by simp [Value.ownBlock] at hk; omega)
   have:=congrArg (List.take (rest.length * 1)) hg5
   rw [List.take_take,Nat.min_eq_left (by simp)] at this
   rw [this]
   simp [il]
  have hok':=hA.ok h'
  have hgt:=get_ok hA h'
  obtain ⟨N',Z',hN',hn',hz'⟩:=told hA h'
  rw [← hN'] at hgt
  have kr:N'[100]? = some (.int .i64 (nd σ' h').right):=by rw [hN']; exact Nd.at_right hok'
  have kl:N'[99]? = some (.int .i64 (nd σ' h').left):=by rw [hN']; exact Nd.at_left hok'
  obtain ⟨a0,hrow0,_⟩:=drop_lift hA h'
  have c0:=row_cell hrow0 (i:=0) rfl
  have HAr:=Lib.hid hA
  have HGt:=Lib.hid hgt
  have HN':=Lib.hid hn'
  have HZ':=Lib.hid hz'
  have HS:=Lib.hid hS
  have HFF:=(hIq hF (aIq hgw hgF))
  have HC:=Lib.hid hC
  have HB:=(hIq hB1 hB2)
  have HOW:=Lib.hid hown'
  have hfb:(f:Int) ≤ 65537:=by omega
  have hfb':f ≤ 65537:=by omega
  have hlb:rest.length ≤ 65537:=by simp at hB1; omega
  have hlb':(rest.length:Int) ≤ 65537:=by omega
  have hwk:IntKind.i64.wrap (rest.length:Int) = rest.length:=IntWalk.i64_in _ (by omega)
  clear hA hF hO hC hS hB1 hB2 hown hown' hok' hgt hN' hn' hz' hg1 hg3 hg4 hg5 hgw hgF hrow0
  have KR:=(hIq kr kl)
  clear kr kl
  obtain ⟨m,hm⟩:∃ m,m = rest.length:=⟨_,rfl⟩
  simp only [List.length_cons] at hg2 ⊢
  rw [← hm] at hcell hlb hlb' hwk hg2 ⊢
  have HM:=Lib.hid hm
  clear hm
  go_wp2_with fail
  refine HGt.out.mono ?_; rintro e w4 ⟨rfl,hc4⟩
  have hw5:Adds wr ((w4.alloc (.cells Z' 123)).setRow w4.heap.size N'):=(hc4.alloc _).setRow (.inr hc4.size) _
  have hA5:=HAr.out.adds hw5
  obtain ⟨a5,hr5,hd5⟩:=drop_lift hA5 h'
  have c5:=row_cell hr5 (i:=0) rfl
  have hN5:=row_setRow_same (heap_alloc_new w4 (.cells Z' 123)) N'
  have hbnd:=pile_bound (σ:=σ') (h:=h') (rest:=rest) HB.out.1
  have hC5:=HC.out.trans hw5 (fun _ => fEq)
  have hown5:=hw5.owns HOW.out (fun _ _ h => h)
  have hsz4:=hc4.size
  have hgw4:g < w4.heap.size:=Nat.lt_of_lt_of_le HFF.out.2.1.2 hc4.size
  have K5:=(hIq hN5 (aIq hC5 hown5))
  have BB:=Lib.hid hbnd
  have D5:=Lib.hid hd5
  clear hc4 hw5 hA5 hr5 hd5 hN5 hbnd hC5 hown5 c0
  go_wp2_with (first
   | ((with_reducible show zOq (.alloc 123)); refine wpList_alloc_is rfl 123 rfl (.agg Z') HZ'.out.1 ?_; dsimp only [Value.cells]; try simp only [World.size_alloc])
   | ((with_reducible show zOq (.store 123 (.tmp 11) _)); go_must (refine wpList_store_part rfl 123 _ _ rfl w4.heap.size 0 N' rfl rfl (heap_alloc_new _ _) (by rw [sizeN,HN'.out.1]) (by rw [HN'.out.1,HZ'.out.2]; omega) HN'.out.2 N' (by rw [splice_all _ _ (by rw [Array.length_toList,Array.length_toList,HN'.out.1,HZ'.out.2])]) ?_)))
  cases hd:(σ'.drop Nd.zero h').1 with
  | false =>
   rw [hd] at D5 BB
   have hsk:=sweep_keep (rest:=rest) (f:=f) hd
   have hls:=sweep_less' (σ:=σ') (h:=h') (rest:=rest)
   have hlv:=drop_kept hd
   obtain ⟨σ2,hσ2⟩:∃ σ2,σ2 = (σ'.drop Nd.zero h').2.2:=⟨_,rfl⟩
   rw [← hσ2] at hsk hls D5 BB hlv
   have SK:=(hIq hsk (aIq hls hlv))
   clear hsk hls hd hσ2 hlv
   refine D5.out.mono ?_; rintro e w6 ⟨rfl,hm6⟩
   have M6:=Lib.hid hm6
   clear hm6
   go_wp2
   go_roundg (3 * total σ2 + rest.length)
   case measure => exact SK.out.2.1
   refine (Stk.of_moved (st:=rest) ?_ M6.out HFF.out.1 ?_ K5.out.2.1).mid (by rw [← SK.out.1]; exact HS.out) (BB.out.2 trivial) ?_
   · rw [HM.out]; exact K5.out.2.2
   · intro k hk; cases hk; exact HFF.out.2.2
   have:=SK.out.2.2
   have:=HB.out.2
   omega
  | true =>
   rw [hd] at D5 BB
   have hsk:=sweep_free (rest:=rest) (f:=f) hd
   have hls:=sweep_less (rest:=rest) hd
   have hlv:=drop_live hd
   obtain ⟨σ2,hσ2⟩:∃ σ2,σ2 = (σ'.drop Nd.zero h').2.2:=⟨_,rfl⟩
   rw [← hσ2] at hsk hls D5 BB hlv
   obtain ⟨nr,hnr⟩:∃ nr,nr = (nd σ' h').right:=⟨_,rfl⟩
   obtain ⟨nl,hnl⟩:∃ nl,nl = (nd σ' h').left:=⟨_,rfl⟩
   have hpp:pile (nd σ' h') rest = pushes nr nl rest 2:=by rw [hnr,hnl]; rfl
   rw [← hnr, ← hnl] at KR
   rw [hpp] at hsk hls BB
   have SK:=(hIq hsk (aIq hls hlv))
   clear hsk hls hd hσ2 hlv hnr hnl hpp
   refine D5.out.mono ?_; rintro e w6 ⟨rfl,hm6⟩
   have hst:=Stk.of_moved (st:=rest) (v:=.slice (some ⟨g,0,none⟩) m cap) (by rw [HM.out]; exact K5.out.2.2) hm6 HFF.out.1 (fun k hk => by cases hk; exact HFF.out.2.2) K5.out.2.1
   have hN6:w6.heap[w4.heap.size]? = some (.cells N' 123 (0,0)):=by
    obtain ⟨F6,p1,p2,p3⟩:=hm6
    refine p2.row K5.out.1 (fun hf => ?_)
    obtain ⟨_,_,_,_,_,_,_,q6⟩:=HAr.out
    have:=q6 _ hf
    omega
   have ST:=Lib.hid hst
   have cR:=row_cell hN6 KR.out.1
   have cL:=row_cell hN6 KR.out.2
   clear hm6 hst hN6 KR
   go_wp2
   go_loopg [9,75] 2 (fun g9 s9 s75 wx => ∃ k:Nat,k ≤ 2 ∧ g9 = 2 - k ∧ s75 = .int .i64 k ∧ Stk w s F σ2 (pushes nr nl rest k) s9 wx)
   case atStart => exact ⟨0,by omega,rfl,rfl,ST.out⟩
   obtain ⟨k,hk,rfl,rfl,hst⟩:=hrel
   have hln:(pushes nr nl rest k).length ≤ 65539:=by have h1:=pushes_length nr nl rest k; have h2:=HM.out; omega
   have ST:=Lib.hid hst
   have hix:=fun w0 => (index_two nr nl w0).1
   have hiy:=fun w0 => (index_two nr nl w0).2
   clear hst
   rcases (by omega:k = 0 ∨ k = 1 ∨ k = 2) with rfl | rfl | rfl
   · by_cases hx:nr = 0
     · subst hx
       go_wp2
       go_roundg 1
       case measure => omega
       exact ⟨1,by omega,rfl,by go_num,by simpa [pushes] using ST.out⟩
     have e3:(nr != 0) = true:=by simpa using hx
     have e4:decide (nr = 0) = false:=by simpa using hx
     go_wp2_with (first
      | (at_builtin; refine wpList_append_own_at _ rfl _ _ 43 rfl w.heap.size 3 i0 (.int .i64 0) 1 8 Tryz.underlying43 HI.out.1 HI.out.2.1 HI.out.2.2.1 HI.out.2.2.2 rfl (by decide) u9 _ _ rfl (ST.out.owns.1.alloc _) ⟨wr.heap.size,0,none⟩ 1 1 [.int .i64 nr] rfl rfl (cell_one_new _ _ _) (by simp [Value.oneCell']) (by unfold maxLen; omega) (by omega) (by have:=ST.out.owns.2; simp; omega) ?_; intro v' w7 hown' hgrow hnil hloc; have P7:=Lib.hid (ST.out.push hown' hgrow hloc); clear hown' hgrow hnil hloc))
     go_roundg 1
     case measure => omega
     exact ⟨1,by omega,rfl,by go_num,by simpa [pushes,hx] using P7.out⟩
   · by_cases hx:nl = 0
     · subst hx
       go_wp2
       go_roundg 0
       case measure => omega
       exact ⟨2,by omega,rfl,by go_num,by simpa [pushes] using ST.out⟩
     have e3:(nl != 0) = true:=by simpa using hx
     have e4:decide (nl = 0) = false:=by simpa using hx
     go_wp2_with (first
      | (at_builtin; refine wpList_append_own_at _ rfl _ _ 43 rfl w.heap.size 3 i0 (.int .i64 0) 1 8 Tryz.underlying43 HI.out.1 HI.out.2.1 HI.out.2.2.1 HI.out.2.2.2 rfl (by decide) u9 _ _ rfl (ST.out.owns.1.alloc _) ⟨wr.heap.size,0,none⟩ 1 1 [.int .i64 nl] rfl rfl (cell_one_new _ _ _) (by simp [Value.oneCell']) (by unfold maxLen; omega) (by omega) (by have:=ST.out.owns.2; simp; omega) ?_; intro v' w7 hown' hgrow hnil hloc; have P7:=Lib.hid (ST.out.push hown' hgrow hloc); clear hown' hgrow hnil hloc))
     go_roundg 0
     case measure => omega
     exact ⟨2,by omega,rfl,by go_num,by simpa [pushes,hx] using P7.out⟩
   go_wp2
   go_roundg (3 * total σ2 + (pushes nr nl rest 2).length)
   case measure => exact SK.out.2.1
   have hlv:=SK.out.2.2
   have hB:=HB.out.2
   have:=ST.out.mid (goal:=goal) (f:=f + 1) (by rw [← SK.out.1]; exact HS.out) (BB.out.1 trivial) (by omega)
   have e:IntKind.i64.wrap ((f:Int) + 1) = ((f + 1:Nat):Int):=by rw [IntWalk.i64_in _ (by omega)]; omega
   first
    | exact this
    | (rw [e]; exact this)
    | (simpa [e] using this)
theorem Drop_ok {w:World} {s:Nat} {F:Nat → Prop} {σ:SlabSt Nd} (h:At w s F σ) (n:Int) :
 Calls Tryz.prog 39 #[.pointer (some ⟨s,0,none⟩),.int .i64 n] w fun e w' => e = .returned (.tuple #[.int .i64 (dropS σ n).1,.int .i64 (dropS σ n).2.1]) ∧ Moved w w' s F (dropS σ n).2.2:=by
 unfold dropS
 by_cases hc:has σ n = true ∧ (nd σ n).held ≠ 0
 · rw [if_pos hc]; exact Drop_go h n hc.1 hc.2
 rw [if_neg hc]
 cases hb:has σ n with
 | false => exact (Drop_none h n hb).mono fun e w' ⟨he,ha⟩ => ⟨he,Moved.same h ha⟩
 | true =>
  have h0:(nd σ n).held = 0:=Classical.byContradiction fun hx => hc ⟨hb,hx⟩
  exact (Drop_held0 h n hb h0).mono fun e w' ⟨he,ha⟩ => ⟨he,Moved.same h ha⟩
theorem be4_nat (x:UInt32):Sha.be4 x = [UInt8.ofNat (x.toNat / 16777216),UInt8.ofNat (x.toNat / 65536),UInt8.ofNat (x.toNat / 256),UInt8.ofNat x.toNat]:=by
 have h:∀ (k:UInt32) (n:Nat),k.toNat = n → n < 32 → (x >>> k).toUInt8 = UInt8.ofNat (x.toNat / 2 ^ n):=fun k n hk hn => by
  apply UInt8.toNat.inj
  rw [UInt32.toNat_toUInt8,UInt32.toNat_shiftRight,hk,Nat.mod_eq_of_lt hn,Nat.shiftRight_eq_div_pow,UInt8.toNat_ofNat']
 unfold Sha.be4
 have e0:x.toUInt8 = UInt8.ofNat x.toNat:=by
  apply UInt8.toNat.inj
  rw [UInt32.toNat_toUInt8,UInt8.toNat_ofNat']
 rw [h 24 24 rfl (by omega),h 16 16 rfl (by omega),h 8 8 rfl (by omega),e0]
theorem of8_congr {a b:Nat} (h:a % 256 = b % 256):UInt8.ofNat a = UInt8.ofNat b:=by
 apply UInt8.toNat.inj
 rw [UInt8.toNat_ofNat',UInt8.toNat_ofNat']
 exact h
theorem len8_bytes (n:Nat) (h:n ≤ 1125899906842000):Sha.len8 n = [UInt8.ofNat (n * 8 / 72057594037927936),UInt8.ofNat (n * 8 / 281474976710656),UInt8.ofNat (n * 8 / 1099511627776),UInt8.ofNat (n * 8 / 4294967296),UInt8.ofNat (n * 8 / 16777216),UInt8.ofNat (n * 8 / 65536),UInt8.ofNat (n * 8 / 256),UInt8.ofNat (n * 8)]:=by
 unfold Sha.len8
 have e1:(UInt32.ofNat (n * 8 / 4294967296)).toNat = n * 8 / 4294967296:=by rw [UInt32.toNat_ofNat',Nat.mod_eq_of_lt (by omega)]
 have e2:(UInt32.ofNat (n * 8)).toNat = n * 8 % 4294967296:=by rw [UInt32.toNat_ofNat']
 rw [be4_nat,be4_nat,e1,e2]
 simp only [List.cons_append,List.nil_append]
 rw [of8_congr (a:=n * 8 / 4294967296 / 16777216) (b:=n * 8 / 72057594037927936) (by omega),of8_congr (a:=n * 8 / 4294967296 / 65536) (b:=n * 8 / 281474976710656) (by omega),of8_congr (a:=n * 8 / 4294967296 / 256) (b:=n * 8 / 1099511627776) (by omega),
  of8_congr (a:=n * 8 % 4294967296 / 16777216) (b:=n * 8 / 16777216) (by omega),of8_congr (a:=n * 8 % 4294967296 / 65536) (b:=n * 8 / 65536) (by omega),of8_congr (a:=n * 8 % 4294967296 / 256) (b:=n * 8 / 256) (by omega),of8_congr (a:=n * 8 % 4294967296) (b:=n * 8) (by omega)]
theorem pad_len (l:List UInt8):(Sha.pad l).length % 64 = 0:=by
 unfold Sha.pad Sha.zeros Sha.len8 Sha.be4
 simp
 omega
def ByAt (w0 w:World) (v:Value) (l:List UInt8):Prop:=(∃ q qc,v = .slice q l.length qc ∧ w.ownsRow w0.heap.size 5 1 (.slice q l.length qc) l.length (l.map bv)) ∧ Adds w0 w
section
variable {w0 w w' : World} {v : Value} {l : List UInt8}
theorem ByAt.adds (h:ByAt w0 w v l) (a:Adds w w'):ByAt w0 w' v l:=by
 obtain ⟨⟨q,qc,h1,h2⟩,h3⟩:=h
 exact ⟨⟨q,qc,h1,a.owns h2 (fun _ _ h => h)⟩,h3.trans a (fun _ => fEq)⟩
theorem ByAt.bytes (h:ByAt w0 w v l):Bytes w v l:=by
 obtain ⟨⟨q,qc,rfl,h2⟩,h3⟩:=h
 rcases h2.2 with ⟨e,h0⟩ | ⟨g,cap,cur,e,_,hg,hn,hc,hs,ht⟩
 · have hl:l = []:=List.eq_nil_of_length_eq_zero h0
   subst hl
   rw [e]
   exact Bytes.nil _
 cases e
 refine ⟨_,_,rfl,hn,hc,fun j x hx => ⟨g,0,rfl,?_⟩⟩
 rw [Nat.zero_add]
 refine row_cell hg (take_get ht ?_)
 rw [List.getElem?_map,hx]
 rfl
theorem by_empty (w:World):ByAt w (w.alloc (.cells #[] 5)) (.slice (some ⟨w.heap.size,0,none⟩) 0 0) [] :=
 ⟨⟨some ⟨w.heap.size,0,none⟩,0,rfl,by simp,.inr ⟨w.heap.size,0, #[],rfl,Nat.le_refl _,heap_alloc_new _ _,Nat.le_refl _,Nat.zero_le _,rfl,by simp⟩⟩,(Ch.refl _ _).alloc _⟩
theorem wp_bytes {ops:Array Oper} {rest:List Oper} {o:Oper} {a:Act} {Q:Exit → Act → World → Prop} (hgd:o.guard = none) (s x:Operand)
 (ho:o.op = .call { callee:=.builtin .append,args := #[s,x],argTypes := #[32,32] }) (hm:ByAt w0 w v l) (hs:a.eval s = v) {ao:Option Addr} {m c:Nat} {bs:List UInt8} (hx:a.eval x = .slice ao m c) (hb:Bytes w (.slice ao m c) bs) (hl:l.length + bs.length ≤ 100000000000)
 (h:∀ v' w',ByAt w0 w' v' (l ++ bs) → w.grownBy w' v.ownBlock → wpList Tryz.prog ops Q rest (a.put o.dst v') w'):wpList Tryz.prog ops Q (o :: rest) a w:=by
 obtain ⟨⟨q,qc,rfl,h2⟩,h3⟩:=hm
 obtain ⟨hbl,hbx⟩:=hb.at
 obtain ⟨i8,p1,p2,p3,p4⟩:=info8
 have hlow:∀ k,(Value.slice q l.length qc).ownBlock = some k → w0.heap.size ≤ k:=fun k hk => (h2.lt k hk).1
 rcases Nat.eq_zero_or_pos m with h0 | h0
 · have hnil:bs = []:=List.eq_nil_of_length_eq_zero (by omega)
   subst hnil
   subst h0
   have hle:l.length ≤ qc:=by
    rcases h2.2 with ⟨e,h1⟩ | ⟨g,cap,cur,e,_,_,h3,_⟩
    · omega
    injection e with _ _ e3; omega
   have hsrc:Src Tryz.prog i8.size 32 (.slice ao 0 c) 0 [] w:=by
    cases ao with
    | none => exact Src.ofNil w Tryz.underlying32 c
    | some ad => exact Src.ofSlice w Tryz.underlying32 ad 0 c [] (by simp) (fun j u hu => by simp at hu) (fun u hu => by cases hu)
   refine wpList_plain hgd fun _ hK => ?_
   have hrun:=run_append_nothing (P:=Tryz.prog) w 32 32 o.type 5 i8 Tryz.underlying32 p1 q l.length qc hle _ hsrc
   unfold Oper.wp
   simp [execOp,ho,resolve,invoke,builtin,hs,hx,hrun,Result.andThen]
   exact hK _ _ (h _ w (by rw [List.append_nil]; exact ⟨⟨q,qc,rfl,h2⟩,h3⟩) ⟨rfl,rfl,rfl,Nat.le_refl _,fun _ _ _ => rfl⟩)
 obtain ⟨g,off,rfl,_⟩:=hbx 0 bs[0] (List.getElem?_eq_getElem (by omega))
 refine wpList_append_mine hgd s x 32 ho 5 i8 (.int .u8 0) 1 1 Tryz.underlying32 p1 p2 p3 p4 rfl (by decide) (.slice q l.length qc) l.length (l.map bv) hs (h2.base (fun _ _ => Nat.zero_le _)) ⟨g,off,none⟩ m c (bs.map bv) hx (by rw [List.length_map,hbl]; omega) (fun j u hu => ?_) (fun u hu => ?_) (by unfold maxLen; omega) (by omega) ?_
 · rw [List.getElem?_map] at hu
   cases hj:bs[j]? with
   | none => rw [hj] at hu; cases hu
   | some y =>
    rw [hj] at hu
    obtain rfl:=Option.some.inj hu
    obtain ⟨g',off',e,hc⟩:=hbx j y hj
    cases e
    rw [add_plain]
    exact hc
 · obtain ⟨y,_,rfl⟩:=List.mem_map.1 hu
   rfl
 intro v' w' q1 q2 q3
 obtain ⟨qo,qc',rfl⟩:=owns_form q1
 refine h _ w' ⟨⟨qo,qc',?_,?_⟩,h3.grown q2 (fun k hk => .inr (hlow k hk))⟩ q2
 · rw [List.length_append,hbl]
 have hb2:w'.ownsRow w0.heap.size 5 1 (.slice qo (l.length + m) qc') (l.length + m) (l.map bv ++ bs.map bv):=q1.base (fun k hk => by
  rcases q3 with e | e
  · rw [e] at hk; exact hlow k hk
  have:=e k hk
  have:=h3.size
  omega)
 rw [List.length_append,List.map_append, ← hbl]
 exact hb2
theorem wp_byte {ops:Array Oper} {rest:List Oper} {o:Oper} {a:Act} {Q:Exit → Act → World → Prop} (hgd:o.guard = none) (s x:Operand)
 (ho:o.op = .call { callee:=.builtin .append,args := #[s,x],argTypes := #[32,32] }) (hm:ByAt w0 w v l) (hs:a.eval s = v) (hx:a.eval x = .slice (some ⟨w.heap.size,0,none⟩) 1 1) {u:Value} (y:UInt8) (hu:u = bv y) (hl:l.length ≤ 99999999999)
 (h:∀ v' w',ByAt w0 w' v' (l ++ [y]) → wpList Tryz.prog ops Q rest (a.put o.dst v') w'):wpList Tryz.prog ops Q (o :: rest) a (w.alloc (.cells #[u] 5)):=by
 subst hu
 refine wp_bytes hgd s x ho (hm.adds ((Ch.refl _ _).alloc _)) hs hx (bs := [y]) ?_ (by simp; omega) (fun v' w' h1 _ => h v' w' h1)
 exact Bytes.row (bs := [y]) (heap_alloc_new w _) rfl (by unfold maxLen; omega)
end
noncomputable def joinS (σ:SlabSt Nd) (k:List UInt8) (d:Int) (own other:Int):Int × Int × SlabSt Nd:=innerS σ d (if bit k d = 1 then other else own) (if bit k d = 1 then own else other)
noncomputable def chainS (k:List UInt8) (lo:Nat):Nat → SlabSt Nd → Int → Int × SlabSt Nd
 | 0,σ,now => (now,σ)
 | n + 1,σ,now => chainS k lo n (joinS σ k (lo + n:Nat) now 0).2.2 (joinS σ k (lo + n:Nat) now 0).1
def besideS (σ:SlabSt Nd) (k:List UInt8) (h:Int) (d:Nat):Int:=if bit k (d:Nat) = 1 then (nd σ h).left else (nd σ h).right
noncomputable def heldS (σ:SlabSt Nd) (o:Int):SlabSt Nd:=if o ≠ 0 then (holdS σ o).2 else σ
noncomputable def stepS (σ:SlabSt Nd) (k:List UInt8) (h:Int) (d:Nat) (now:Int):Int × SlabSt Nd :=
 ((joinS (heldS σ (besideS σ k h d)) k (d:Nat) now (besideS σ k h d)).1,(joinS (heldS σ (besideS σ k h d)) k (d:Nat) now (besideS σ k h d)).2.2)
noncomputable def upL (k:List UInt8):Nat → List Int → SlabSt Nd → Int → Int × SlabSt Nd
 | _,[],σ,now => (now,σ)
 | d,h :: l,σ,now => stepS (upL k (d + 1) l σ now).2 k h d (upL k (d + 1) l σ now).1
noncomputable def endS (σ:SlabSt Nd) (key value:List UInt8) (v:Value) (d:Nat) (e:Int):Int × SlabSt Nd :=
 if (nd σ e).kind = 1 ∧ (nd σ e).key ≠ key then
  chainS key d (common key (nd σ e).key - d) (joinS (holdS (leafS σ key value v).2.2 e).2 key (common key (nd σ e).key:Nat) (leafS σ key value v).1 e).2.2 (joinS (holdS (leafS σ key value v).2.2 e).2 key (common key (nd σ e).key:Nat) (leafS σ key value v).1 e).1
 else ((leafS σ key value v).1,(leafS σ key value v).2.2)
noncomputable def madeS (σ:SlabSt Nd) (key value:List UInt8) (v:Value) (l:List Int) (e:Int):Int × SlabSt Nd :=
 upL key 0 l (endS σ key value v l.length e).2 (endS σ key value v l.length e).1
noncomputable def putS (σ:SlabSt Nd) (root:Int) (key value:List UInt8) (v:Value) (l:List Int) (e:Int):Int × SlabSt Nd :=
 ((madeS σ key value v l e).1,if root ≠ 0 then (dropS (madeS σ key value v l e).2 root).2.2 else (madeS σ key value v l e).2)
def sameS (σ:SlabSt Nd) (key value:List UInt8) (e:Int):Bool:=decide ((nd σ e).kind = 1) && (decide ((nd σ e).key = key) && decide ((nd σ e).value = value))
def otherS (σ:SlabSt Nd) (key:List UInt8) (e:Int):Bool:=decide ((nd σ e).kind = 1) && decide ((nd σ e).key ≠ key)
def atHand (σ:SlabSt Nd) (root:Int):Int:=if rootErr σ root ≠ 0 then rootErr σ root else if root ≠ 0 ∧ (nd σ root).held = 0 then 7 else 0
section
variable {σ : SlabSt Nd}
def Free (σ:SlabSt Nd) (h:Int):Prop:=h = 0 ∨ (1 ≤ held σ h ∧ ((nd σ h).kind = 2 → (nd σ h).depth = 0))
end
section
variable {σ0 σ τ : SlabSt Nd} {key : List UInt8} {now other : Int} {d n : Nat} {t u : Tr}
structure PutMid (σ0 σ:SlabSt Nd) (key:List UInt8) (now:Int) (d:Nat) (t:Tr) (n:Nat):Prop where
 good:Good σ
 old:∀ k x,sk σ0 k = some x → sk σ k = some x ∧ held σ k = held σ0 k
 fresh:sk σ0 now = none
 there:∃ y,sk σ now = some y ∧ Pre y.key key d
 one:held σ now = 1
 only:∀ k,1 ≤ held σ k → k = now ∨ 1 ≤ held σ0 k
 rep:Rep (sk σ) now d t
 live:live σ = live σ0 + n
 total:total σ ≤ total σ0 + 2 * n
 room:σ.room = σ0.room
def Beside (σ0:SlabSt Nd) (key:List UInt8) (d:Nat) (t:Tr) (other:Int) (u:Tr):Prop :=
 (other = 0 ∧ u = .nil ∧ t.isNode = true) ∨ ∃ y,sk σ0 other = some y ∧ Rep (sk σ0) other (d + 1) u ∧ Pre y.key key d ∧ kbit y.key d ≠ kbit key d
def endCost (σ:SlabSt Nd) (key:List UInt8) (d:Nat) (e:Int):Nat:=if (nd σ e).kind = 1 ∧ (nd σ e).key ≠ key then common key (nd σ e).key - d + 2 else 1
structure PutOk (σ0 σ:SlabSt Nd) (root r:Int) (t:Tr) (n:Nat):Prop where
 good:Good σ
 rep:Rep (sk σ) r 0 t
 ne:r ≠ 0
 mine:held σ r = 1
 only:∀ k,1 ≤ held σ k → k = r ∨ (1 ≤ held σ0 k ∧ (k = root → 2 ≤ held σ0 k))
 fresh:sk σ0 r = none
 others:∀ k,k ≠ root → 1 ≤ held σ0 k → sk σ k = sk σ0 k ∧ held σ k = held σ0 k
 self:2 ≤ held σ0 root → sk σ root = sk σ0 root ∧ held σ root = held σ0 root - 1
 live:live σ ≤ live σ0 + n
 total:total σ ≤ total σ0 + 2 * n
 room:σ.room = σ0.room
 keeps:∀ k d t,k ≠ root → 1 ≤ held σ0 k → Rep (sk σ0) k d t → Rep (sk σ) k d t
def putCost (σ:SlabSt Nd) (key:List UInt8) (l:List Int) (e:Int):Nat:=endCost σ key l.length e + l.length
end
abbrev Ents:=List (List UInt8 × List UInt8)
def sideE (b d:Nat) (L:Ents):Ents:=L.filter (fun p => kbit p.1 d == b)
def tree:Nat → Ents → Tr
 | _,[] => .nil
 | _,[p] => .leaf p.1 p.2
 | 0,_ :: _ :: _ => .nil
 | m + 1,p :: q :: R => .node (tree m (sideE 0 (255 - m) (p :: q :: R))) (tree m (sideE 1 (255 - m) (p :: q :: R)))
def without (L:Ents) (k:List UInt8):Ents:=L.filter (fun p => !(p.1 == k))
def upd (L:Ents) (k v:List UInt8):Ents:=(k,v) :: without L k
def keysOf (L:Ents):List (List UInt8):=L.map (·.1)
theorem tree_nil (m:Nat):tree m [] = .nil:=by cases m <;> rfl
theorem tree_one (m:Nat) (p:List UInt8 × List UInt8):tree m [p] = .leaf p.1 p.2:=by cases m <;> rfl
theorem tree_two {m:Nat} {L:Ents} (h:2 ≤ L.length):tree (m + 1) L = .node (tree m (sideE 0 (255 - m) L)) (tree m (sideE 1 (255 - m) L)):=by
 match L,h with
 | p :: q :: R,_ => rfl
theorem pre_all {a b:List UInt8} (ha:a.length = 32) (hb:b.length = 32) (h:Pre a b 256):a = b:=by
 by_cases e:a = b
 · exact e
 obtain ⟨h1,h2,h3⟩:=common_spec a b (by omega) e
 exact absurd (h _ (by omega)) h3
structure Ents.Ok (L:Ents) (k:List UInt8) (d:Nat):Prop where
 nodup:(keysOf L).Nodup
 len:∀ p ∈ L,p.1.length = 32
 pre:∀ p ∈ L,Pre p.1 k d
variable {L : Ents} {k v : List UInt8} {d m : Nat}
theorem keys_filter (L:Ents) (f:List UInt8 × List UInt8 → Bool):(keysOf (L.filter f)).Sublist (keysOf L):=(List.filter_sublist).map _
theorem Ents.Ok.filter (h:L.Ok k d) (f:List UInt8 × List UInt8 → Bool):Ents.Ok (L.filter f) k d:=⟨h.nodup.sublist (keys_filter L f),fun p hp => h.len p ((List.mem_filter.1 hp).1),fun p hp => h.pre p ((List.mem_filter.1 hp).1)⟩
theorem Ents.Ok.side (h:L.Ok k d):Ents.Ok (sideE (kbit k d) d L) k (d + 1):=by
 refine ⟨(h.filter _).nodup,(h.filter _).len,fun p hp => (h.pre p ((List.mem_filter.1 hp).1)).next ?_⟩
 have:=(List.mem_filter.1 hp).2
 simpa using this
theorem Ents.Ok.few (h:L.Ok k 256):L.length ≤ 1:=by
 match L,h with
 | [],_ => simp
 | [p],_ => simp
 | p :: q :: R,h =>
  exfalso
  have e:=pre_all (h.len p (by simp)) (h.len q (by simp)) ((h.pre p (by simp)).trans (h.pre q (by simp)).symm)
  have:=h.nodup
  simp [keysOf,e] at this
def Tr.nodes:Tr → Nat
 | .nil => 0
 | .leaf _ _ => 1
 | .node l r => l.nodes + r.nodes + 1
def Tr.leaves:Tr → Nat
 | .nil => 0
 | .leaf _ _ => 1
 | .node l r => l.leaves + r.leaves
def reach (f:View):Nat → Int → List Int
 | 0,_ => []
 | m + 1,h => match f h with
  | none => []
  | some n => h :: (if n.kind = 2 then reach f m n.left ++ reach f m n.right else [])
variable {f : View} {h : Int} {d m : Nat} {t : Tr}
theorem Rep.size (hf:Fit f) (hr:Rep f h d t):(ndF f h).size = wrap64 (t.leaves:Nat):=by
 induction hr with
 | nil => unfold ndF; rw [hf.zero]; show (0:Int) = wrap64 ((0:Nat):Int); unfold wrap64; omega
 | leaf hn hk =>
  rw [ndF_some hn,(hf.leaf hn (by omega)).2.size]
  show (1:Int) = wrap64 ((1:Nat):Int)
  unfold wrap64
  omega
 | @node h d n l r hn hk _ _ _ ihl ihr =>
  rw [ndF_some hn,(hf.inner hn hk).size,ihl,ihr]
  have e:((Tr.node l r).leaves:Int) = (l.leaves:Int) + (r.leaves:Int):=Int.natCast_add _ _
  rw [e]
  generalize (l.leaves:Int) = a
  generalize (r.leaves:Int) = b
  unfold wrap64
  omega
end Go.Proofs.YtmeglndnkdgkoaaGreat.Store

/- Laws of the layers below. -/
import Derived.Test.YtngbdbpofifimaaGreatQm1
import Derived.Test.YtngbdbpofifimaaGreatProg
import Derived.BigQuiet
set_option maxHeartbeats 3200000
set_option maxRecDepth 100000
set_option linter.unusedVariables false
namespace Go.Proofs.YtngbdbpofifimaaGreat.SlabN
open Go.RowKit
abbrev At (ok:Value→Prop):=EH 272 3 275 103 ok
theorem Uh (n:Int) (w:World) (h1:1≤n) (h2:n≤65536) :
 Calls Tryz.prog 118 #[.int .i64 n] w fun e w'=>e=.returned (.tuple #[.pointer (some ⟨w.heap.size,0,none⟩),.int .i64 0])∧w'=w.alloc (.cells #[.slice none 0 0,.slice none 0 0,.int .i64 n,.int .i64 0] 275):=by
 go_enter Tryz.func118,Tryz.ntmps118;go_wp2;go_ret2;exact⟨rfl,rfl⟩
theorem An (w:World) (a:Nat) (room:Int) (ha2:w.cell? ⟨a,2,none⟩=some (.int .i64 room)) (hroom:1≤room) :
 Calls Tryz.prog 176 #[.pointer (some ⟨a,0,none⟩)] w fun e w'=>e=.returned (.bool false)∧w=w':=by
 go_enter Tryz.func176,Tryz.ntmps176;go_wp2;go_ret;exact⟨by simp;omega,rfl⟩
theorem Gi (w:World) (a g len cap m c:Nat) (room:Int) (ha0:w.cell? ⟨a,0,none⟩=some (.slice (some ⟨g,0,none⟩) len cap)) (ha2:w.cell? ⟨a,2,none⟩=some (.int .i64 room)) (hroom:1≤room)
 (hm:m<len) (hl:len≤65536) (hc:w.cell? ⟨g,m*104+103,none⟩=some (.int .i64 c)) (hc0:1≤c) :
 Calls Tryz.prog 177 #[.pointer (some ⟨a,0,none⟩),.int .i64 (m+1)] w fun e w'=>e=.returned (.pointer (some ⟨g,m*104,none⟩))∧w=w':=by
 have hc1:(((c:Nat):Int) == 0)=false:=by simp;omega
 have hr1:(room == 0)=false:=by simp;omega
 go_enter Tryz.func177,Tryz.ntmps177;go_wp2_with (go_at_call 176;refine(An _ _ _ (by go_simp) hroom).mono ?_;rintro e w1 ⟨rfl,rfl⟩);go_ret;exact⟨rfl,rfl⟩
theorem Si (w:World) (a len cap:Nat) (ao:Option Addr) (n room:Int) (ha0:w.cell? ⟨a,0,none⟩=some (.slice ao len cap)) (ha2:w.cell? ⟨a,2,none⟩=some (.int .i64 room)) (hroom:1≤room)
 (hn:n<1∨(len:Int)<n) (hl:len≤65536) :
 Calls Tryz.prog 177 #[.pointer (some ⟨a,0,none⟩),.int .i64 n] w fun e w'=>e=.returned (.pointer none)∧w=w':=by
 have hr1:(room == 0)=false:=by simp;omega
 by_cases h1:n<1
 · clear hn
   go_enter Tryz.func177,Tryz.ntmps177;go_wp2_with (go_at_call 176;refine(An _ _ _ (by go_simp) hroom).mono ?_;rintro e w1 ⟨rfl,rfl⟩);go_ret;exact⟨rfl,rfl⟩
 have h2:(len:Int)<n:=by omega
 clear hn;go_enter Tryz.func177,Tryz.ntmps177;go_wp2_with (go_at_call 176;refine(An _ _ _ (by go_simp) hroom).mono ?_;rintro e w1 ⟨rfl,rfl⟩);go_ret;exact⟨rfl,rfl⟩
theorem UM (w:World) (a g len cap m:Nat) (room:Int) (ha0:w.cell? ⟨a,0,none⟩=some (.slice (some ⟨g,0,none⟩) len cap)) (ha2:w.cell? ⟨a,2,none⟩=some (.int .i64 room)) (hroom:1≤room)
 (hm:m<len) (hl:len≤65536) (hc:w.cell? ⟨g,m*104+103,none⟩=some (.int .i64 0)) :
 Calls Tryz.prog 177 #[.pointer (some ⟨a,0,none⟩),.int .i64 (m+1)] w fun e w'=>e=.returned (.pointer none)∧w=w':=by
 have hr1:(room == 0)=false:=by simp;omega
 go_enter Tryz.func177,Tryz.ntmps177;go_wp2_with (go_at_call 176;refine(An _ _ _ (by go_simp) hroom).mono ?_;rintro e w1 ⟨rfl,rfl⟩);go_ret;exact⟨rfl,rfl⟩
theorem FB {ok:Value→Prop} (hok:OkT ok 103) {w:World} {a:Nat} {F:Nat→Prop} {σ:AG} (h:At ok w a F σ) {m:Nat} {s:Value×Nat} (hs:σ.slots[m]?=some s) :
 ∃g cap cur vf,w.heap[a]?=some (.cells #[.slice (some ⟨g,0,none⟩) σ.slots.length cap,vf,.int .i64 σ.room,.int .i64 σ.used] 275 (0,0)) ∧
  w.heap[g]?=some (.cells cur 272 (0,0))∧σ.slots.length≤cap∧cap≤maxLen∧cur.size=cap*104∧cur.toList.take (σ.slots.length*104)=AG.flat σ.slots∧m<σ.slots.length ∧
  w.ownsRow 0 3 1 vf σ.free.length (σ.free.map fun n=>Value.int .i64 (n:Nat))∧F a∧F g∧g≠a∧(∀k,vf.ownBlock=some k→F k∧k≠a∧g≠k)∧(∀k,F k→k<w.heap.size) ∧
  cur[m*104+103]?=some (.int .i64 s.2)∧(cur.toList.drop (m*104)).take 103=s.1.cells.toList:=by
 obtain⟨h0,vs,vf,h1,h2,h3,h4,h5,h6,h7⟩:=h;have hm:=(List.getElem?_eq_some_iff.1 hs).1;obtain⟨g,cap,cur,rfl,hg,hc1,hc2,hc3,hc4⟩:=Bq h2 (by omega);have hsz:∀s∈σ.slots,s.1.cells.size=103:=fun s hs=>hok.size _ (h0.things s hs)
 have hf5:=h5 g rfl;refine⟨g,cap,cur,vf,h1,hg,hc1,hc2,hc3,hc4,hm,h3,h4,hf5.1,hf5.2,fun k hk=>⟨(h6 k hk).1,(h6 k hk).2.1,fun e=>(h6 k hk).2.2 (by simp[Value.ownBlock,e])⟩,h7,?_,?_⟩
 · exact Dx hc4 (AG.Oo hsz hs)
 have:=AG.Oa hsz hs;rw[←hc4] at this;rw[←this,List.drop_take,List.take_take,Nat.min_eq_left];have:(m+1)*104≤σ.slots.length*104:=Nat.mul_le_mul_right _ hm;omega
noncomputable def zero:Value:=((Tryz.prog.info? 168).bind (·.zero)).getD undef
theorem Lz:(Tryz.prog.info? 168).bind (·.zero)=some zero:=by kernel_rfl
noncomputable def Dg:Array Value:=(Tryz.prog.built 272 []).getD #[]
theorem OU:Tryz.prog.built 272 []=some Dg:=by kernel_rfl
theorem G7:Dg.toList=zero.cells.toList ++ [.int .i64 (0:Nat)]:=by kernel_rfl
def OkV (v:Value):Prop:=∃cs:Array Value,v=.agg cs∧cs.size=103∧∀c∈cs.toList,c.oneCell'=true
theorem okV:OkT OkV 103 where
 size:=fun v ⟨cs,h,h1,_⟩=>by subst h;exact h1
 one:=fun v ⟨cs,h,_,h2⟩=>by subst h;exact h2
theorem BP:OkV zero:=⟨zero.cells,by kernel_rfl,by kernel_rfl,fun c hc=>List.all_eq_true.1 (by kernel_rfl:zero.cells.toList.all (·.oneCell')=true) c hc⟩
theorem Bm:(Tryz.prog.info? 168).map (·.size)=some 103:=by kernel_rfl
theorem RO:zero.cells.size=103:=okV.size _ BP
attribute [irreducible] zero Dg
theorem Lm:(Tryz.prog.info? 272).map (·.size)=some 104:=by kernel_rfl
abbrev AN (w w':World):Prop:=Ch (fun _=>False) w w'
def BF (w w':World) (a:Nat) (F:Nat→Prop) (σ:AG):Prop:=∃F',At OkV w' a F' σ∧Ch F w w'∧∀k,F' k→F k∨w.heap.size≤k
theorem Km (n:Nat) (w:World) (h1:1≤n) (h2:n≤65536):Calls Tryz.prog 118 #[.int .i64 n] w fun e w'=>e=.returned (.tuple #[.pointer (some ⟨w.heap.size,0,none⟩),.int .i64 0]) ∧
 At OkV w' w.heap.size (fun k=>k=w.heap.size) ⟨n,[],[]⟩∧AN w w'∧w'.heap.size=w.heap.size+1:=by
 refine(Uh n w (by omega) (by omega)).mono ?_;rintro e w' ⟨rfl,rfl⟩;refine⟨rfl,⟨AG.WF.empty _ n h1 h2,_,_,heap_alloc_new _ _,World.ownsRow_nil ..,World.ownsRow_nil ..,rfl,?_,?_,?_⟩,(Ch.refl _ _).alloc _,by simp⟩
 · simp[Value.ownBlock]
 · simp[Value.ownBlock]
 rintro k rfl;simp
theorem Py {ok:Value→Prop} (hok:OkT ok 103) {w:World} {a:Nat} {F:Nat→Prop} {σ:AG} (h:At ok w a F σ) {n:Int} (hn:σ.get? n=none) :
 Calls Tryz.prog 177 #[.pointer (some ⟨a,0,none⟩),.int .i64 n] w fun e w'=>e=.returned (.pointer none)∧w=w':=by
 have hr:=h.1.room;have hl:=h.1.len;have h':=h;obtain⟨h0,vs,vf,h1,h2,h3,h4,h5,h6,h7⟩:=h;obtain⟨ao,cap,rfl⟩:=Am h2;obtain⟨c0,c1,c2,c3,fz,hlt⟩:=Fw h1;rcases AG.LX hn with hn|⟨m,rfl,hm|⟨v,hv⟩⟩
 · exact Si w a _ cap ao n σ.room c0 c2 (by omega) (.inl hn) (by omega)
 · exact Si w a _ cap ao _ σ.room c0 c2 (by omega) (.inr (by omega)) (by omega)
 obtain⟨g,cap',cur,vf',e1,e2,_,_,_,_,hm,_,_,_,_,_,_,hc,_⟩:=FB hok h' hv;obtain⟨d0,d1,d2,d3,_,_⟩:=Fw e1;exact UM w a g _ cap' m σ.room d0 d2 (by omega) hm (by omega) (AH e2 hc)
theorem WJ {w:World} {a:Nat} {F:Nat→Prop} {σ:AG} (h:At OkV w a F σ) :
 Calls Tryz.prog 122 #[.pointer (some ⟨a,0,none⟩)] w fun e w'=>e=.returned (.int .i64 σ.used)∧w=w':=by
 have hr:=h.1.room;obtain⟨h0,vs,vf,h1,_⟩:=h;obtain⟨c0,c1,c2,c3,fz,hlt⟩:=Fw h1;go_enter Tryz.func122,Tryz.ntmps122;go_wp2_with (go_at_call 176;refine(An _ _ (σ.room:Int) (by go_simp) (by omega)).mono ?_;rintro e w1 ⟨rfl,rfl⟩);go_ret;exact⟨rfl,rfl⟩
theorem DU {w:World} {a:Nat} {F:Nat→Prop} {σ:AG} (h:At OkV w a F σ) :
 Calls Tryz.prog 197 #[.pointer (some ⟨a,0,none⟩)] w fun e w'=>e=.returned (.int .i64 σ.room)∧w=w':=by
 have hr:=h.1.room;obtain⟨h0,vs,vf,h1,_⟩:=h;obtain⟨c0,c1,c2,c3,fz,hlt⟩:=Fw h1;go_enter Tryz.func197,Tryz.ntmps197;go_wp2_with (go_at_call 176;refine(An _ _ (σ.room:Int) (by go_simp) (by omega)).mono ?_;rintro e w1 ⟨rfl,rfl⟩);go_ret;exact⟨rfl,rfl⟩
theorem MJ {w:World} {a:Nat} {F:Nat→Prop} {σ:AG} (h:At OkV w a F σ) (n:Int) :
 Calls Tryz.prog 205 #[.pointer (some ⟨a,0,none⟩),.int .i64 n] w fun e w'=>e=.returned (.int .i64 (σ.hold n).1)∧BF w w' a F (σ.hold n).2:=by
 have hr:=h.1.room;have hl:=h.1.len;cases hs:σ.get? n with
 | none =>
  have hcnt:σ.hold n=(7,σ):=by simp[AG.hold,hs]
  rw[hcnt];have HS:=Lib.hid hs;clear hs hcnt;have h':=h;obtain⟨h0,vs,vf,h1,_⟩:=h';obtain⟨c0,c1,c2,c3,fz,hlt⟩:=Fw h1;go_enter Tryz.func205,Tryz.ntmps205;go_wp2_with (first|(go_at_call 176;refine(An _ _ (σ.room:Int) (by go_simp) (by omega)).mono ?_;rintro e w1 ⟨rfl,rfl⟩)|(go_at_call 177;refine(Py okV h HS.out).mono ?_;rintro e w1 ⟨rfl,rfl⟩));go_ret;exact⟨rfl,F,h,Ch.refl _ _,fun k hk=>.inl hk⟩
 | some s =>
  obtain⟨m,rfl,hs',h0,_⟩:=AG.Ac hs;have hle:=h.1.counts s (List.mem_of_getElem? hs');obtain⟨g,cap,cur,vf,e1,e2,b1,b2,b3,b4,hm,o1,f1,f2,f3,f4,f5,hc,ht⟩:=FB okV h hs';obtain⟨d0,d1,d2,d3,fz,hlt⟩:=Fw e1;have hcc:=AH e2 hc;have hlg:=Ad e2;have hfg:=Ai e2 (m*104+103);have hwf:=h.1;by_cases hmax:s.2=1073741824
  · have hcnt:σ.hold (m+1)=(4,σ):=by simp[AG.hold,hs,hmax]
    rw[hcnt];have hb:(((s.2:Nat):Int) == 1073741824)=true:=by simp[hmax]
    clear hs hs' hcnt hmax hle ht b4 e1 e2 hc;go_enter Tryz.func205,Tryz.ntmps205;go_wp2_with (first|(go_at_call 176;refine(An _ _ (σ.room:Int) (by go_simp) (by omega)).mono ?_;rintro e w1 ⟨rfl,rfl⟩)|(go_at_call 177;refine(Gi _ _ g _ cap m s.2 σ.room (by go_simp) (by go_simp) (by omega) hm (by omega) (by go_simp) (by omega)).mono ?_;rintro e w1 ⟨rfl,rfl⟩));go_ret;exact⟨rfl,F,h,Ch.refl _ _,fun k hk=>.inl hk⟩
  have hcnt:σ.hold (m+1)=(0, { σ with slots:=σ.slots.set m (s.1,s.2+1) }):=by
   simp only[AG.hold,hs,if_neg hmax,AG.setAt];rw[show((m:Int)+1-1).toNat=m by omega]
  rw[hcnt];have hb:(((s.2:Nat):Int) == 1073741824)=false:=by simp;omega
  have HW:Hid (AG.WF OkV { σ with slots:=σ.slots.set m (s.1,s.2+1) }):=hwf.set hs' h0 (hwf.things s (List.mem_of_getElem? hs')) (by simp;omega) (by simp);have HF:Hid ((AG.flat σ.slots).set (m*104+103) (.int .i64 (s.2+1:Nat))=AG.flat (σ.slots.set m (s.1,s.2+1))):=AG.Ei (fun x hx=>okV.size _ (hwf.things x hx)) hs' _;have HB:=Lib.hid b4;have E1:=Lib.hid e1;have E2:=Lib.hid e2;clear hs hs' hcnt hmax ht b4 e1 e2 hc hwf h;go_enter Tryz.func205,Tryz.ntmps205;go_wp2_with (first|(go_at_call 176;refine(An _ _ (σ.room:Int) (by go_simp) (by omega)).mono ?_;rintro e w1 ⟨rfl,rfl⟩)|(go_at_call 177;refine(Gi _ _ g _ cap m s.2 σ.room (by go_simp) (by go_simp) (by omega) hm (by omega) (by go_simp) (by omega)).mono ?_;rintro e w1 ⟨rfl,rfl⟩));go_ret;refine⟨rfl,F,EH.make HW.out (Ak (p:=⟨g,m*104+103,none⟩) E1.out (Ne.symm f3) _) rfl (by simp[AG.used]) ?_ ((Ch.setCell (F:=fun k=>k=g) (Ch.refl _ _) (.inl rfl) _).owns o1 (fun k hk e=>(f4 k hk).2.2 e.symm)) f1 ?_ ?_ (by simpa using f5),(Ch.refl _ _).setCell (.inl f2) _,fun k hk=>.inl hk⟩
  · have:=AV E2.out (m*104+103) (.int .i64 (s.2+1:Nat))
    simp only[List.length_set];refine MT this b1 b2 (by simpa using b3) ?_;rw[Array.toList_setIfInBounds,List.take_set,HB.out,HF.out]
  · simpa[Value.ownBlock] using ⟨f2,f3⟩
  simpa[Value.ownBlock] using f4
end Go.Proofs.YtngbdbpofifimaaGreat.SlabN

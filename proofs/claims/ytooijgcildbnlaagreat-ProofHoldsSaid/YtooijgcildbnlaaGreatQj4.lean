/- Laws of the layers below. -/
import Derived.Test.YtooijgcildbnlaaGreatQj1
import Derived.Test.YtooijgcildbnlaaGreatProg
import Derived.BigQuiet
set_option maxHeartbeats 3200000
set_option maxRecDepth 100000
set_option linter.unusedVariables false
namespace Go.Proofs.YtooijgcildbnlaaGreat.SlabN
open Go.RowKit
abbrev At (ok:Value→Prop):=EG 264 3 267 103 ok
theorem Uq (n:Int) (w:World) (h1:1≤n) (h2:n≤65536) :
 Calls Tryz.prog 173 #[.int .i64 n] w fun e w'=>e=.returned (.tuple #[.pointer (some ⟨w.heap.size,0,none⟩),.int .i64 0])∧w'=w.alloc (.cells #[.slice none 0 0,.slice none 0 0,.int .i64 n,.int .i64 0] 267):=by
 go_enter Tryz.func173,Tryz.ntmps173;go_wp2;go_ret2;exact⟨rfl,rfl⟩
theorem Ag (w:World) (a:Nat) (room:Int) (ha2:w.cell? ⟨a,2,none⟩=some (.int .i64 room)) (hroom:1≤room) :
 Calls Tryz.prog 171 #[.pointer (some ⟨a,0,none⟩)] w fun e w'=>e=.returned (.bool false)∧w=w':=by
 go_enter Tryz.func171,Tryz.ntmps171;go_wp2;go_ret;exact⟨by simp;omega,rfl⟩
theorem Gl (w:World) (a g len cap m c:Nat) (room:Int) (ha0:w.cell? ⟨a,0,none⟩=some (.slice (some ⟨g,0,none⟩) len cap)) (ha2:w.cell? ⟨a,2,none⟩=some (.int .i64 room)) (hroom:1≤room)
 (hm:m<len) (hl:len≤65536) (hc:w.cell? ⟨g,m*104+103,none⟩=some (.int .i64 c)) (hc0:1≤c) :
 Calls Tryz.prog 172 #[.pointer (some ⟨a,0,none⟩),.int .i64 (m+1)] w fun e w'=>e=.returned (.pointer (some ⟨g,m*104,none⟩))∧w=w':=by
 have hc1:(((c:Nat):Int) == 0)=false:=by simp;omega
 have hr1:(room == 0)=false:=by simp;omega
 go_enter Tryz.func172,Tryz.ntmps172;go_wp2_with (go_at_call 171;refine(Ag _ _ _ (by go_simp) hroom).mono ?_;rintro e w1 ⟨rfl,rfl⟩);go_ret;exact⟨rfl,rfl⟩
theorem Tl (w:World) (a len cap:Nat) (ao:Option Addr) (n room:Int) (ha0:w.cell? ⟨a,0,none⟩=some (.slice ao len cap)) (ha2:w.cell? ⟨a,2,none⟩=some (.int .i64 room)) (hroom:1≤room)
 (hn:n<1∨(len:Int)<n) (hl:len≤65536) :
 Calls Tryz.prog 172 #[.pointer (some ⟨a,0,none⟩),.int .i64 n] w fun e w'=>e=.returned (.pointer none)∧w=w':=by
 have hr1:(room == 0)=false:=by simp;omega
 by_cases h1:n<1
 · clear hn
   go_enter Tryz.func172,Tryz.ntmps172;go_wp2_with (go_at_call 171;refine(Ag _ _ _ (by go_simp) hroom).mono ?_;rintro e w1 ⟨rfl,rfl⟩);go_ret;exact⟨rfl,rfl⟩
 have h2:(len:Int)<n:=by omega
 clear hn;go_enter Tryz.func172,Tryz.ntmps172;go_wp2_with (go_at_call 171;refine(Ag _ _ _ (by go_simp) hroom).mono ?_;rintro e w1 ⟨rfl,rfl⟩);go_ret;exact⟨rfl,rfl⟩
theorem UJ (w:World) (a g len cap m:Nat) (room:Int) (ha0:w.cell? ⟨a,0,none⟩=some (.slice (some ⟨g,0,none⟩) len cap)) (ha2:w.cell? ⟨a,2,none⟩=some (.int .i64 room)) (hroom:1≤room)
 (hm:m<len) (hl:len≤65536) (hc:w.cell? ⟨g,m*104+103,none⟩=some (.int .i64 0)) :
 Calls Tryz.prog 172 #[.pointer (some ⟨a,0,none⟩),.int .i64 (m+1)] w fun e w'=>e=.returned (.pointer none)∧w=w':=by
 have hr1:(room == 0)=false:=by simp;omega
 go_enter Tryz.func172,Tryz.ntmps172;go_wp2_with (go_at_call 171;refine(Ag _ _ _ (by go_simp) hroom).mono ?_;rintro e w1 ⟨rfl,rfl⟩);go_ret;exact⟨rfl,rfl⟩
theorem FN {ok:Value→Prop} (hok:OkT ok 103) {w:World} {a:Nat} {F:Nat→Prop} {σ:AD} (h:At ok w a F σ) {m:Nat} {s:Value×Nat} (hs:σ.slots[m]?=some s) :
 ∃g cap cur vf,w.heap[a]?=some (.cells #[.slice (some ⟨g,0,none⟩) σ.slots.length cap,vf,.int .i64 σ.room,.int .i64 σ.used] 267 (0,0)) ∧
  w.heap[g]?=some (.cells cur 264 (0,0))∧σ.slots.length≤cap∧cap≤maxLen∧cur.size=cap*104∧cur.toList.take (σ.slots.length*104)=AD.flat σ.slots∧m<σ.slots.length ∧
  w.ownsRow 0 3 1 vf σ.free.length (σ.free.map fun n=>Value.int .i64 (n:Nat))∧F a∧F g∧g≠a∧(∀k,vf.ownBlock=some k→F k∧k≠a∧g≠k)∧(∀k,F k→k<w.heap.size) ∧
  cur[m*104+103]?=some (.int .i64 s.2)∧(cur.toList.drop (m*104)).take 103=s.1.cells.toList:=by
 obtain⟨h0,vs,vf,h1,h2,h3,h4,h5,h6,h7⟩:=h;have hm:=(List.getElem?_eq_some_iff.1 hs).1;obtain⟨g,cap,cur,rfl,hg,hc1,hc2,hc3,hc4⟩:=Cr h2 (by omega);have hsz:∀s∈σ.slots,s.1.cells.size=103:=fun s hs=>hok.size _ (h0.things s hs)
 have hf5:=h5 g rfl;refine⟨g,cap,cur,vf,h1,hg,hc1,hc2,hc3,hc4,hm,h3,h4,hf5.1,hf5.2,fun k hk=>⟨(h6 k hk).1,(h6 k hk).2.1,fun e=>(h6 k hk).2.2 (by simp[Value.ownBlock,e])⟩,h7,?_,?_⟩
 · exact Dj hc4 (AD.PV hsz hs)
 have:=AD.Oq hsz hs;rw[←hc4] at this;rw[←this,List.drop_take,List.take_take,Nat.min_eq_left];have:(m+1)*104≤σ.slots.length*104:=Nat.mul_le_mul_right _ hm;omega
noncomputable def zero:Value:=((Tryz.prog.info? 159).bind (·.zero)).getD undef
theorem Mu:(Tryz.prog.info? 159).bind (·.zero)=some zero:=by kernel_rfl
noncomputable def Di:Array Value:=(Tryz.prog.built 264 []).getD #[]
theorem Oi:Tryz.prog.built 264 []=some Di:=by kernel_rfl
theorem Hy:Di.toList=zero.cells.toList ++ [.int .i64 (0:Nat)]:=by kernel_rfl
def OkV (v:Value):Prop:=∃cs:Array Value,v=.agg cs∧cs.size=103∧∀c∈cs.toList,c.oneCell'=true
theorem okV:OkT OkV 103 where
 size:=fun v ⟨cs,h,h1,_⟩=>by subst h;exact h1
 one:=fun v ⟨cs,h,_,h2⟩=>by subst h;exact h2
theorem DI:OkV zero:=⟨zero.cells,by kernel_rfl,by kernel_rfl,fun c hc=>List.all_eq_true.1 (by kernel_rfl:zero.cells.toList.all (·.oneCell')=true) c hc⟩
theorem C8:(Tryz.prog.info? 159).map (·.size)=some 103:=by kernel_rfl
theorem QN:zero.cells.size=103:=okV.size _ DI
attribute [irreducible] zero Di
theorem LP:(Tryz.prog.info? 264).map (·.size)=some 104:=by kernel_rfl
abbrev Adds (w w':World):Prop:=Ch (fun _=>False) w w'
def BA (w w':World) (a:Nat) (F:Nat→Prop) (σ:AD):Prop:=∃F',At OkV w' a F' σ∧Ch F w w'∧∀k,F' k→F k∨w.heap.size≤k
theorem I5 (n:Nat) (w:World) (h1:1≤n) (h2:n≤65536):Calls Tryz.prog 173 #[.int .i64 n] w fun e w'=>e=.returned (.tuple #[.pointer (some ⟨w.heap.size,0,none⟩),.int .i64 0]) ∧
 At OkV w' w.heap.size (fun k=>k=w.heap.size) ⟨n,[],[]⟩∧Adds w w'∧w'.heap.size=w.heap.size+1:=by
 refine(Uq n w (by omega) (by omega)).mono ?_;rintro e w' ⟨rfl,rfl⟩;refine⟨rfl,⟨AD.WF.empty _ n h1 h2,_,_,heap_alloc_new _ _,World.ownsRow_nil ..,World.ownsRow_nil ..,rfl,?_,?_,?_⟩,(Ch.refl _ _).alloc _,by simp⟩
 · simp[Value.ownBlock]
 · simp[Value.ownBlock]
 rintro k rfl;simp
theorem Pg {ok:Value→Prop} (hok:OkT ok 103) {w:World} {a:Nat} {F:Nat→Prop} {σ:AD} (h:At ok w a F σ) {n:Int} (hn:σ.get? n=none) :
 Calls Tryz.prog 172 #[.pointer (some ⟨a,0,none⟩),.int .i64 n] w fun e w'=>e=.returned (.pointer none)∧w=w':=by
 have hr:=h.1.room;have hl:=h.1.len;have h':=h;obtain⟨h0,vs,vf,h1,h2,h3,h4,h5,h6,h7⟩:=h;obtain⟨ao,cap,rfl⟩:=As h2;obtain⟨c0,c1,c2,c3,fz,hlt⟩:=GM h1;rcases AD.Qi hn with hn|⟨m,rfl,hm|⟨v,hv⟩⟩
 · exact Tl w a _ cap ao n σ.room c0 c2 (by omega) (.inl hn) (by omega)
 · exact Tl w a _ cap ao _ σ.room c0 c2 (by omega) (.inr (by omega)) (by omega)
 obtain⟨g,cap',cur,vf',e1,e2,_,_,_,_,hm,_,_,_,_,_,_,hc,_⟩:=FN hok h' hv;obtain⟨d0,d1,d2,d3,_,_⟩:=GM e1;exact UJ w a g _ cap' m σ.room d0 d2 (by omega) hm (by omega) (AH e2 hc)
theorem V2 {w:World} {a:Nat} {F:Nat→Prop} {σ:AD} (h:At OkV w a F σ) :
 Calls Tryz.prog 144 #[.pointer (some ⟨a,0,none⟩)] w fun e w'=>e=.returned (.int .i64 σ.used)∧w=w':=by
 have hr:=h.1.room;obtain⟨h0,vs,vf,h1,_⟩:=h;obtain⟨c0,c1,c2,c3,fz,hlt⟩:=GM h1;go_enter Tryz.func144,Tryz.ntmps144;go_wp2_with (go_at_call 171;refine(Ag _ _ (σ.room:Int) (by go_simp) (by omega)).mono ?_;rintro e w1 ⟨rfl,rfl⟩);go_ret;exact⟨rfl,rfl⟩
theorem E3 {w:World} {a:Nat} {F:Nat→Prop} {σ:AD} (h:At OkV w a F σ) :
 Calls Tryz.prog 203 #[.pointer (some ⟨a,0,none⟩)] w fun e w'=>e=.returned (.int .i64 σ.room)∧w=w':=by
 have hr:=h.1.room;obtain⟨h0,vs,vf,h1,_⟩:=h;obtain⟨c0,c1,c2,c3,fz,hlt⟩:=GM h1;go_enter Tryz.func203,Tryz.ntmps203;go_wp2_with (go_at_call 171;refine(Ag _ _ (σ.room:Int) (by go_simp) (by omega)).mono ?_;rintro e w1 ⟨rfl,rfl⟩);go_ret;exact⟨rfl,rfl⟩
theorem MN {w:World} {a:Nat} {F:Nat→Prop} {σ:AD} (h:At OkV w a F σ) (n:Int) :
 Calls Tryz.prog 199 #[.pointer (some ⟨a,0,none⟩),.int .i64 n] w fun e w'=>e=.returned (.int .i64 (σ.hold n).1)∧BA w w' a F (σ.hold n).2:=by
 have hr:=h.1.room;have hl:=h.1.len;cases hs:σ.get? n with
 | none =>
  have hcnt:σ.hold n=(7,σ):=by simp[AD.hold,hs]
  rw[hcnt];have HS:=Lib.hid hs;clear hs hcnt;have h':=h;obtain⟨h0,vs,vf,h1,_⟩:=h';obtain⟨c0,c1,c2,c3,fz,hlt⟩:=GM h1;go_enter Tryz.func199,Tryz.ntmps199;go_wp2_with (first|(go_at_call 171;refine(Ag _ _ (σ.room:Int) (by go_simp) (by omega)).mono ?_;rintro e w1 ⟨rfl,rfl⟩)|(go_at_call 172;refine(Pg okV h HS.out).mono ?_;rintro e w1 ⟨rfl,rfl⟩));go_ret;exact⟨rfl,F,h,Ch.refl _ _,fun k hk=>.inl hk⟩
 | some s =>
  obtain⟨m,rfl,hs',h0,_⟩:=AD.Ab hs;have hle:=h.1.counts s (List.mem_of_getElem? hs');obtain⟨g,cap,cur,vf,e1,e2,b1,b2,b3,b4,hm,o1,f1,f2,f3,f4,f5,hc,ht⟩:=FN okV h hs';obtain⟨d0,d1,d2,d3,fz,hlt⟩:=GM e1;have hcc:=AH e2 hc;have hlg:=Ao e2;have hfg:=Al e2 (m*104+103);have hwf:=h.1;by_cases hmax:s.2=1073741824
  · have hcnt:σ.hold (m+1)=(4,σ):=by simp[AD.hold,hs,hmax]
    rw[hcnt];have hb:(((s.2:Nat):Int) == 1073741824)=true:=by simp[hmax]
    clear hs hs' hcnt hmax hle ht b4 e1 e2 hc;go_enter Tryz.func199,Tryz.ntmps199;go_wp2_with (first|(go_at_call 171;refine(Ag _ _ (σ.room:Int) (by go_simp) (by omega)).mono ?_;rintro e w1 ⟨rfl,rfl⟩)|(go_at_call 172;refine(Gl _ _ g _ cap m s.2 σ.room (by go_simp) (by go_simp) (by omega) hm (by omega) (by go_simp) (by omega)).mono ?_;rintro e w1 ⟨rfl,rfl⟩));go_ret;exact⟨rfl,F,h,Ch.refl _ _,fun k hk=>.inl hk⟩
  have hcnt:σ.hold (m+1)=(0, { σ with slots:=σ.slots.set m (s.1,s.2+1) }):=by
   simp only[AD.hold,hs,if_neg hmax,AD.setAt];rw[show((m:Int)+1-1).toNat=m by omega]
  rw[hcnt];have hb:(((s.2:Nat):Int) == 1073741824)=false:=by simp;omega
  have HW:Hid (AD.WF OkV { σ with slots:=σ.slots.set m (s.1,s.2+1) }):=hwf.set hs' h0 (hwf.things s (List.mem_of_getElem? hs')) (by simp;omega) (by simp);have HF:Hid ((AD.flat σ.slots).set (m*104+103) (.int .i64 (s.2+1:Nat))=AD.flat (σ.slots.set m (s.1,s.2+1))):=AD.Eg (fun x hx=>okV.size _ (hwf.things x hx)) hs' _;have HB:=Lib.hid b4;have E1:=Lib.hid e1;have E2:=Lib.hid e2;clear hs hs' hcnt hmax ht b4 e1 e2 hc hwf h;go_enter Tryz.func199,Tryz.ntmps199;go_wp2_with (first|(go_at_call 171;refine(Ag _ _ (σ.room:Int) (by go_simp) (by omega)).mono ?_;rintro e w1 ⟨rfl,rfl⟩)|(go_at_call 172;refine(Gl _ _ g _ cap m s.2 σ.room (by go_simp) (by go_simp) (by omega) hm (by omega) (by go_simp) (by omega)).mono ?_;rintro e w1 ⟨rfl,rfl⟩));go_ret;refine⟨rfl,F,EG.make HW.out (Az (p:=⟨g,m*104+103,none⟩) E1.out (Ne.symm f3) _) rfl (by simp[AD.used]) ?_ ((Ch.setCell (F:=fun k=>k=g) (Ch.refl _ _) (.inl rfl) _).owns o1 (fun k hk e=>(f4 k hk).2.2 e.symm)) f1 ?_ ?_ (by simpa using f5),(Ch.refl _ _).setCell (.inl f2) _,fun k hk=>.inl hk⟩
  · have:=AT E2.out (m*104+103) (.int .i64 (s.2+1:Nat))
    simp only[List.length_set];refine Pt this b1 b2 (by simpa using b3) ?_;rw[Array.toList_setIfInBounds,List.take_set,HB.out,HF.out]
  · simpa[Value.ownBlock] using ⟨f2,f3⟩
  simpa[Value.ownBlock] using f4
end Go.Proofs.YtooijgcildbnlaaGreat.SlabN

/- Laws of the layers below. -/
import Derived.Test.YtngbdbpofifimaaGreatQm34
import Derived.Lib.SlBytesConst
set_option maxHeartbeats 3200000
set_option maxRecDepth 100000
set_option linter.unusedVariables false
namespace Go.Proofs.YtngbdbpofifimaaGreat.Store
open Go.RowKit Go.Proofs.YtngbdbpofifimaaGreat.ShaW Go.Proofs.YtngbdbpofifimaaGreat.Path
def ScAt (w0 w:World) (c s b:Nat) (σ τ:AG Nd) (root:Int) (aside:List Int) (G:Nat→Prop):Prop :=
 ∃ρ F1 F2 vA,At w s F1 σ∧RAt w b F2 ρ∧Lk τ ρ∧w.heap[c]?=some (.cells #[.pointer (some ⟨s,0,none⟩),.pointer (some ⟨b,0,none⟩),.int .i64 root,vA] 63 (0,0)) ∧
  w.ownsRow 0 3 1 vA aside.length (hl aside)∧(∀k,F1 k→w0.heap.size≤k)∧(∀k,F2 k→w0.heap.size≤k∧¬F1 k)∧(w0.heap.size≤c∧¬F1 c∧¬F2 c) ∧
  (∀k,vA.ownBlock=some k→w0.heap.size≤k∧k≠c∧¬F1 k∧¬F2 k)∧AN w0 w∧∀k,G k→¬F1 k∧¬F2 k∧k≠c∧vA.ownBlock≠some k∧k<w.heap.size
section
variable {w0 w w' : World} {c s b : Nat} {σ σ' τ τ' : AG Nd} {root : Int} {aside : List Int} {G : Nat→Prop}
theorem ScAt.world (h:ScAt w0 w c s b σ τ root aside G):AN w0 w:=by obtain⟨_,_,_,_,_,_,_,_,_,_,_,_,_,h,_⟩:=h;exact h
theorem ScAt.row (h:ScAt w0 w c s b σ τ root aside G):∃ao cap,w.heap[c]?=some (.cells #[.pointer (some ⟨s,0,none⟩),.pointer (some ⟨b,0,none⟩),.int .i64 root,.slice ao aside.length cap] 63 (0,0))∧w.ownsRow 0 3 1 (.slice ao aside.length cap) aside.length (hl aside):=by
 obtain⟨_,_,_,vA,_,_,_,h4,h5,_⟩:=h;obtain⟨ao,cap,rfl⟩:=Am h5;exact⟨ao,cap,h4,h5⟩
theorem ScAt.adds (h:ScAt w0 w c s b σ τ root aside G) (a:AN w w'):ScAt w0 w' c s b σ τ root aside G:=by
 obtain⟨ρ,F1,F2,vA,h1,h2,h3,h4,h5,h6,h7,h8,h9,h10,h11⟩:=h
 exact⟨ρ,F1,F2,vA,h1.adds a,h2.adds a,h3,a.row h4 id,a.owns h5 (fun _ _ h=>h),h6,h7,h8,h9,h10.trans a (fun _=>fEq),fun k hk=>by
  obtain⟨q1,q2,q3,q4,q5⟩:=h11 k hk;exact⟨q1,q2,q3,q4,Nat.lt_of_lt_of_le q5 a.size⟩⟩
theorem ScAt.less {G':Nat→Prop} (h:ScAt w0 w c s b σ τ root aside G) (hG:∀k,G' k→G k):ScAt w0 w c s b σ τ root aside G':=by
 obtain⟨ρ,F1,F2,vA,h1,h2,h3,h4,h5,h6,h7,h8,h9,h10,h11⟩:=h;exact⟨ρ,F1,F2,vA,h1,h2,h3,h4,h5,h6,h7,h8,h9,h10,fun k hk=>h11 k (hG k hk)⟩
theorem At.lt {F:Nat→Prop} (h:At w s F σ):∀k,F k→k<w.heap.size:=by obtain⟨_,_,_,_,_,_,_,q⟩:=h;exact q
theorem ScAt.more (h:ScAt w0 w c s b σ τ root aside G) (a:AN w w') {G':Nat→Prop} (hG:∀k,G' k→G k∨(w.heap.size≤k∧k<w'.heap.size)):ScAt w0 w' c s b σ τ root aside G':=by
 obtain⟨ρ,F1,F2,vA,h1,h2,h3,h4,h5,h6,h7,h8,h9,h10,h11⟩:=h;have l1:=At.lt h1;have l2:=RAt.lt h2;have lc:=Ad h4;refine⟨ρ,F1,F2,vA,h1.adds a,h2.adds a,h3,a.row h4 id,a.owns h5 (fun _ _ h=>h),h6,h7,h8,h9,h10.trans a (fun _=>fEq),fun k hk=>?_⟩;rcases hG k hk with hk|⟨hk,hk'⟩
 · obtain⟨q1,q2,q3,q4,q5⟩:=h11 k hk
   exact⟨q1,q2,q3,q4,Nat.lt_of_lt_of_le q5 a.size⟩
 exact⟨fun h=>by have:=l1 k h;omega,fun h=>by have:=l2 k h;omega,by omega,fun h=>by have:=(h5.lt k h).2;omega,hk'⟩
theorem ScAt.impl (h:ScAt w0 w c s b σ τ root aside G) {f:Nat} {args:Array Value} {P:Ending→AG Nd→Prop}
 (hc:∀G',Ow w0 w s σ G'→Calls Tryz.prog f args w fun e w'=>∃σ',P e σ'∧Ow w0 w' s σ' G'∧But G' w w') :
 Calls Tryz.prog f args w fun e w'=>∃σ',P e σ'∧ScAt w0 w' c s b σ' τ root aside G∧But G w w':=by
 obtain⟨ρ,F1,F2,vA,h1,h2,h3,h4,h5,h6,h7,h8,h9,h10,h11⟩:=h;have l2:=RAt.lt h2;refine(hc (fun k=>k=c∨vA.ownBlock=some k∨F2 k∨G k) ⟨F1,h1,h6,h10,fun k hk=>?_⟩).mono ?_
 · rcases hk with rfl|hk|hk|hk
   · exact⟨h8.2.1,Ad h4⟩
   · exact⟨(h9 k hk).2.2.1,(h5.lt k hk).2⟩
   · exact⟨(h7 k hk).2,l2 k hk⟩
   exact⟨(h11 k hk).1,(h11 k hk).2.2.2.2⟩
 rintro e w' ⟨σ',hP,⟨F1',g1,g2,g3,g4⟩,hB⟩;refine⟨σ',hP,⟨ρ,F1',F2,vA,g1,h2.Ae hB (fun k hk hn=>hn (.inr (.inr (.inl hk)))),h3,hB.row h4 (.inl rfl),Ch.owns hB h5 (fun k hk hn=>hn (.inr (.inl hk))),g2,fun k hk=>⟨(h7 k hk).1,(g4 k (.inr (.inr (.inl hk)))).1⟩,⟨h8.1,(g4 c (.inl rfl)).1,h8.2.2⟩,fun k hk=>⟨(h9 k hk).1,(h9 k hk).2.1,(g4 k (.inr (.inl hk))).1,(h9 k hk).2.2.2⟩,g3,fun k hk=>?_⟩,hB.less (fun k hk=>.inr (.inr (.inr hk)))⟩;obtain⟨q1,q2,q3,q4,q5⟩:=h11 k hk;exact⟨(g4 k (.inr (.inr (.inr hk)))).1,q2,q3,q4,(g4 k (.inr (.inr (.inr hk)))).2⟩
theorem ScAt.Va (h:ScAt w0 w c s b σ τ root aside G) {f:Nat} {args:Array Value} {P:Ending→AG Nd→Prop}
 (hc:∀G',ROw w0 w b τ G'→Calls Tryz.prog f args w fun e w'=>∃τ',P e τ'∧ROw w0 w' b τ' G'∧But G' w w') :
 Calls Tryz.prog f args w fun e w'=>∃τ',P e τ'∧ScAt w0 w' c s b σ τ' root aside G∧But G w w':=by
 obtain⟨ρ,F1,F2,vA,h1,h2,h3,h4,h5,h6,h7,h8,h9,h10,h11⟩:=h;have l1:=At.lt h1;refine(hc (fun k=>k=c∨vA.ownBlock=some k∨F1 k∨G k) ⟨ρ,F2,h2,h3,fun k hk=>(h7 k hk).1,h10,fun k hk=>?_⟩).mono ?_
 · rcases hk with rfl|hk|hk|hk
   · exact⟨h8.2.2,Ad h4⟩
   · exact⟨(h9 k hk).2.2.2,(h5.lt k hk).2⟩
   · exact⟨fun h=>(h7 k h).2 hk,l1 k hk⟩
   exact⟨(h11 k hk).2.1,(h11 k hk).2.2.2.2⟩
 rintro e w' ⟨τ',hP,⟨ρ',F2',g1,gL,g2,g3,g4⟩,hB⟩;refine⟨τ',hP,⟨ρ',F1,F2',vA,h1.Ae hB (fun k hk hn=>hn (.inr (.inr (.inl hk)))),g1,gL,hB.row h4 (.inl rfl),Ch.owns hB h5 (fun k hk hn=>hn (.inr (.inl hk))),h6,fun k hk=>⟨g2 k hk,fun hf=>(g4 k (.inr (.inr (.inl hf)))).1 hk⟩,⟨h8.1,h8.2.1,(g4 c (.inl rfl)).1⟩,fun k hk=>⟨(h9 k hk).1,(h9 k hk).2.1,(h9 k hk).2.2.1,(g4 k (.inr (.inl hk))).1⟩,g3,fun k hk=>?_⟩,hB.less (fun k hk=>.inr (.inr (.inr hk)))⟩;obtain⟨q1,q2,q3,q4,q5⟩:=h11 k hk;exact⟨q1,(g4 k (.inr (.inr (.inr hk)))).1,q3,q4,(g4 k (.inr (.inr (.inr hk)))).2⟩
theorem ScAt.ow (h:ScAt w0 w c s b σ τ root aside G):Ow w0 w s σ G:=by
 obtain⟨ρ,F1,F2,vA,h1,h2,h3,h4,h5,h6,h7,h8,h9,h10,h11⟩:=h;exact⟨F1,h1,h6,h10,fun k hk=>⟨(h11 k hk).1,(h11 k hk).2.2.2.2⟩⟩
theorem ScAt.UD (h:ScAt w0 w c s b σ τ root aside G):ROw w0 w b τ G:=by
 obtain⟨ρ,F1,F2,vA,h1,h2,h3,h4,h5,h6,h7,h8,h9,h10,h11⟩:=h;exact⟨ρ,F2,h2,h3,fun k hk=>(h7 k hk).1,h10,fun k hk=>⟨(h11 k hk).2.1,(h11 k hk).2.2.2.2⟩⟩
theorem ScAt.UI (h:ScAt w0 w c s b σ τ root aside G) (r:Int):ScAt w0 (w.setCell ⟨c,2,none⟩ (.int .i64 r)) c s b σ τ r aside G:=by
 obtain⟨ρ,F1,F2,vA,h1,h2,h3,h4,h5,h6,h7,h8,h9,h10,h11⟩:=h;have hC:Ch (fun k=>k=c) w (w.setCell ⟨c,2,none⟩ (.int .i64 r)):=(Ch.refl (fun k=>k=c) w).setCell (p:=⟨c,2,none⟩) (.inl rfl) _;have h4':=AV h4 2 (.int .i64 r);refine⟨ρ,F1,F2,vA,h1.Ae hC (fun k hk e=>h8.2.1 (e▸hk)),h2.Ae hC (fun k hk e=>h8.2.2 (e▸hk)),h3,h4',hC.owns h5 (fun k hk e=>(h9 k hk).2.1 e),h6,h7,h8,h9,h10.setCell (p:=⟨c,2,none⟩) (.inr h8.1) _,fun k hk=>?_⟩;obtain⟨q1,q2,q3,q4,q5⟩:=h11 k hk;exact⟨q1,q2,q3,q4,by simpa using q5⟩
theorem ScAt.Nv (h:ScAt w0 w c s b σ τ root aside G) {ao:Option Addr} {n cap:Nat} (hr:w.heap[c]?=some (.cells #[.pointer (some ⟨s,0,none⟩),.pointer (some ⟨b,0,none⟩),.int .i64 root,.slice ao n cap] 63 (0,0)))
 {w4:World} {v':Value} {aside':List Int} (hch:Ch (fun k=>(Value.slice ao n cap).ownBlock=some k) w w4) (own:w4.ownsRow 0 3 1 v' aside'.length (hl aside')) (ob:v'.ownBlock=(Value.slice ao n cap).ownBlock∨∀k,v'.ownBlock=some k→w.heap.size≤k) :
 ScAt w0 (w4.setCell ⟨c,3,none⟩ v') c s b σ τ root aside' G:=by
 obtain⟨ρ,F1,F2,vA,h1,h2,h3,h4,h5,h6,h7,h8,h9,h10,h11⟩:=h;rw[hr] at h4;simp only[Option.some.injEq,Obj.cells.injEq,and_true,true_and,Array.mk.injEq,List.cons.injEq,and_self] at h4;subst h4;have l1:=At.lt h1;have l2:=RAt.lt h2;have lc:=Ad hr;have r4:=hch.row hr (fun e=>(h9 c e).2.1 rfl);have r5:=AV r4 3 v';have hC:Ch (fun k=>k=c∨(Value.slice ao n cap).ownBlock=some k) w (w4.setCell ⟨c,3,none⟩ v'):=(hch.mono (G:=fun k=>k=c∨(Value.slice ao n cap).ownBlock=some k) (fun _ _ h=>.inr h)).setCell (p:=⟨c,3,none⟩) (.inl (.inl rfl)) _;have hs5:(w4.setCell ⟨c,3,none⟩ v').heap.size=w4.heap.size:=by simp
 have hsz:=hch.size
 have hv:∀k,v'.ownBlock=some k→w0.heap.size≤k∧k≠c∧¬F1 k∧¬F2 k∧∀j,G j→j≠k:=fun k hk=>by
  rcases ob with e|e
  · rw[e] at hk
    exact⟨(h9 k hk).1,(h9 k hk).2.1,(h9 k hk).2.2.1,(h9 k hk).2.2.2,fun j hj e=>(h11 j hj).2.2.2.1 (e▸hk)⟩
  have:=e k hk;have:=h10.size;exact⟨by omega,by omega,fun h=>by have:=l1 k h;omega,fun h=>by have:=l2 k h;omega,fun j hj e=>by have:=(h11 j hj).2.2.2.2;omega⟩
 refine⟨ρ,F1,F2,v',h1.Ae hC (fun k hk e=>?_),h2.Ae hC (fun k hk e=>?_),h3,r5,((Ch.refl (fun k=>k=c) w4).setCell (p:=⟨c,3,none⟩) (.inl rfl) _).owns own (fun k hk e=>(hv k hk).2.1 e),h6,h7,h8,fun k hk=>⟨(hv k hk).1,(hv k hk).2.1,(hv k hk).2.2.1,(hv k hk).2.2.2.1⟩,h10.trans hC (fun k hk=>.inr ?_),fun k hk=>?_⟩
 · rcases e with rfl|e
   · exact h8.2.1 hk
   exact(h9 k e).2.2.1 hk
 · rcases e with rfl|e
   · exact h8.2.2 hk
   exact(h9 k e).2.2.2 hk
 · rcases hk with rfl|e
   · exact h8.1
   exact(h9 k e).1
 obtain⟨q1,q2,q3,q4,q5⟩:=h11 k hk;exact⟨q1,q2,q3,fun e=>(hv k e).2.2.2.2 k hk rfl,by rw[hs5];omega⟩
end
end Go.Proofs.YtngbdbpofifimaaGreat.Store
namespace Go.Proofs.YtngbdbpofifimaaGreat
open Go.RowKit Go.Proofs.YtngbdbpofifimaaGreat.ShaW Go.Proofs.YtngbdbpofifimaaGreat.Path Go.Proofs.YtngbdbpofifimaaGreat.Store Go.Proofs.YtngbdbpofifimaaGreat.Bk Go.Deep Go.ChangeShapes Go.WideShapes Go.ChangeAt
def XQ (W:World) (v:Value):Prop:=∃k:List UInt8,k.length=32∧v=.agg (AS k)
def XB (W:World) (v:Value):Prop:=∃bs:List UInt8,Bytes W v bs∧(bs ≠ []→∀k,v.ownBlock=some k→k<W.heap.size)
def XC (W:World) (v:Value):Prop:=∃ao l cap,v=.slice ao (List.length l) cap∧Ba W ao l∧l.length≤cap

structure CJ where
 h:Int
 key:List UInt8
 til:List UInt8
 n:Int
 most:Int
def CJ.cells (x:CJ):Array Value:=(.int .i64 x.h::(x.key.map bv++(x.til.map bv ++ [.int .i64 x.n,.int .i64 x.most]))).toArray
def VN (W:World) (v:Value):Prop:=∃x:CJ,x.key.length=32∧x.til.length=32∧v=.agg x.cells
section
variable {x : CJ} (h : x.key.length=32) (ht : x.til.length=32)
include h ht
theorem CJ.size:x.cells.size=67:=by simp[CJ.cells,h,ht]
omit h ht in
theorem CJ.list:x.cells.toList=.int .i64 x.h::(x.key.map bv++(x.til.map bv ++ [.int .i64 x.n,.int .i64 x.most])):=rfl
omit ht in
theorem CJ.Be:x.cells.extract 1 (1+32)=AS x.key:=by
 apply Array.ext';simp only[Array.toList_extract,List.extract,CJ.list,AS,List.drop_succ_cons,List.drop_zero];rw[List.take_append_of_le_length (by simp[h]),List.take_of_length_le (by simp[h])]
theorem CJ.WQ:x.cells.extract 33 (33+32)=AS x.til:=by
 apply Array.ext';simp only[Array.toList_extract,List.extract,CJ.list,AS,List.drop_succ_cons];rw[List.drop_append_of_le_length (by simp[h]),List.drop_of_length_le (by simp[h]),List.nil_append,List.take_append_of_le_length (by simp[ht]),List.take_of_length_le (by simp[ht])]
theorem CJ.tail (i:Nat):x.cells[65+i]? = [Value.int .i64 x.n,.int .i64 x.most][i]?:=by
 rw[←Array.getElem?_toList,CJ.list,show 65+i=64+i+1 by omega,List.getElem?_cons_succ,List.getElem?_append_right (by simp[h];omega),List.getElem?_append_right (by simp[h,ht];omega)];simp[h,ht]
 congr 1
 omega
theorem CJ.Wj:x.cells[65]?=some (.int .i64 x.n):=CJ.tail h ht 0
theorem CJ.UP:x.cells[66]?=some (.int .i64 x.most):=CJ.tail h ht 1
end
section
variable {H : Type} {enc : TypeId×Value→H} {W : World} {base : Nat} {v : Value} {d : DataW H} {p : List MemPlace}
theorem NQ:Tryz.prog.cellsOf 49=67:=by kernel_rfl
theorem St {n:Nat} {cs:List Value} {y:DataW H×List MemPlace} (h:DataW.trod enc Tryz.prog W base (fun _=>true) true n 49 cs=some y):∃x:CJ,x.key.length=32∧x.til.length=32∧cs=x.cells.toList:=by
 obtain⟨xs,m,rfl,hx,hl,hxl,hf⟩:=DataW.trod_struct Tryz.underlying49 h;rw[NQ] at hl;have hx5:xs.length=5:=hxl;have g:=fun i (hi:i<5)=>(List.getElem?_eq_getElem (l:=xs) (i:=i) (by omega))
 have f0:=hf 0 ⟨ "H",3,0,false, "", "",0⟩ rfl;have f1:=hf 1 ⟨ "Key",47,1,false, "", "",8⟩ rfl;have f2:=hf 2 ⟨ "To",47,33,false, "", "",40⟩ rfl;have f3:=hf 3 ⟨ "N",3,65,false, "", "",72⟩ rfl;have f4:=hf 4 ⟨ "Most",3,66,false, "", "",80⟩ rfl;rw[g 0 (by omega)] at f0;rw[g 1 (by omega)] at f1;rw[g 2 (by omega)] at f2;rw[g 3 (by omega)] at f3;rw[g 4 (by omega)] at f4;simp only[Lt,KS] at f0 f1 f2 f3 f4;obtain⟨n0,e0,_,_⟩:=DataW.trod_int Tryz.underlying3 f0;obtain⟨k,e1,hk⟩:=Jj f1;obtain⟨k2,e2,hk2⟩:=Jj f2;obtain⟨n3,e3,_,_⟩:=DataW.trod_int Tryz.underlying3 f3;obtain⟨n4,e4,_,_⟩:=DataW.trod_int Tryz.underlying3 f4;refine⟨⟨n0,k,k2,n3,n4⟩,hk,hk2,?_⟩
 have hsplit:cs=cs.take 1++((cs.drop 1).take 32++((cs.drop 33).take 32++((cs.drop 65).take 1++(cs.drop 66).take 1))):=by
  have a5:(cs.drop 66).take 1=cs.drop 66:=List.take_of_length_le (by simp[hl])
  have step:∀i j,cs.drop i=(cs.drop i).take j++cs.drop (i+j):=fun i j=>by
   conv=>lhs;rw[←List.take_append_drop j (cs.drop i)]
   rw[List.drop_drop]
  rw[a5, ←step 65 1, ←step 33 32, ←step 1 32];exact step 0 1
 rw[hsplit];simp only[List.drop_zero] at e0;rw[e0,e1,e2,e3,e4];rfl
theorem WK (hv:Value.okWide Tryz.prog W .any base 49 v)
 (h:DataW.Trod enc Tryz.prog W 0 (fun _=>true) true 49 v d p):VN W v:=by
 simp only[Value.okWide,Tryz.underlying49] at hv;obtain⟨cs,rfl,_,_⟩:=hv;obtain⟨m,hm⟩:=h;obtain⟨x,h1,h2,e⟩:=St hm;refine⟨x,h1,h2,?_⟩
 congr 1
 exact Array.ext' e
end
end Go.Proofs.YtngbdbpofifimaaGreat
namespace Go.Proofs.YtngbdbpofifimaaGreat.Store
open Go.RowKit Go.Proofs.YtngbdbpofifimaaGreat.ShaW Go.Proofs.YtngbdbpofifimaaGreat.Path Go.Proofs.YtngbdbpofifimaaGreat.Bk
theorem MY:(Tryz.prog.info? 49).map (·.size)=some 67:=by kernel_rfl
def Gd (x:CJ) (root:Int):Int:=if x.h≤0 then root else x.h
theorem Kn {w:World} {c:Nat} {p1 p2 v4:Value} {root:Int} (x:CJ) (hk:x.key.length=32) (ht:x.til.length=32) (hc:w.heap[c]?=some (.cells #[p1,p2,.int .i64 root,v4] 63 (0,0))) :
 Calls Tryz.prog 21 #[.agg x.cells,.pointer (some ⟨c,0,none⟩)] w fun e w'=>e=.returned (.int .i64 (Gd x root))∧AN w w':=by
 unfold Gd;obtain⟨h,hh⟩:∃h,h=x.h:=⟨_,rfl⟩
 obtain⟨A,hA⟩:∃A,A=x.cells:=⟨_,rfl⟩
 have a0:A[0]?=some (.int .i64 h):=by rw[hA,hh];rfl
 rw[←hA, ←hh];obtain⟨w1,hw1⟩:∃w1,w1=w.alloc (.cells A 49):=⟨_,rfl⟩
 have r1:w1.heap[w.heap.size]?=some (.cells A 49 (0,0)):=by rw[hw1];exact heap_alloc_new _ _
 have a1:AN w w1:=by rw[hw1];exact(Ch.refl _ _).alloc _
 have c0:=AH r1 a0;have c2:=AH (a1.row hc id) (show(#[p1,p2,Value.int .i64 root,v4]:Array Value)[2]?=_ from rfl);have H1:=(hIq a1 hw1)
 clear hA hh a0 hw1 r1 a1 hk ht hc;by_cases h0:h≤0
 · have f0:decide (h≤0)=true:=decide_eq_true h0
   rw[if_pos h0];go_enter Tryz.func21,Tryz.ntmps21;go_upto_region 1 with fail;rw[←H1.out.2];go_wp2;go_ret;exact⟨rfl,H1.out.1⟩
 have f0:decide (h≤0)=false:=decide_eq_false h0;rw[if_neg h0];go_enter Tryz.func21,Tryz.ntmps21;go_upto_region 1 with fail;rw[←H1.out.2];go_wp2;go_ret;exact⟨rfl,H1.out.1⟩
def IP (er n:Int) (E:Av):List UInt8×List UInt8:=if er=0∧0≤n then (E[n.toNat]?).getD (List.replicate 32 0,[]) else (List.replicate 32 0,[])
def KE (er n:Int) (E:Av):Int:=if er≠0 then er else if n<0 then 2 else if (E.length:Int)≤n then 7 else 0
structure GA (w:World) (X:Array Value) (v:Value) (p:List UInt8×List UInt8):Prop where
 size:X.size=33
 one:∀u∈X.toList,u.oneCell'=true
 key:X.extract 0 (0+32)=AS p.1
 val:X[32]?=some v
 bytes:Bytes w v p.2
theorem MX (w:World):GA w Di (.slice none 0 0) (List.replicate 32 0,[]) :=
 ⟨rfl,by obtain⟨_,_,h,_⟩:=Hj;exact h,rfl,rfl,Bytes.nil w⟩
theorem XS {w:World} {x:Pr} (h:x.Good w):GA w x.cells x.vv x.ent:=by
 obtain⟨ao,cap,e,_⟩:=h.val.form;refine⟨Pr.size h.key,fun u hu=>?_,(CG (o:=0) h.key (by rw[Array.extract_eq_self_of_le (by rw[Pr.size h.key];omega)])).1,(CG (o:=0) h.key (by rw[Array.extract_eq_self_of_le (by rw[Pr.size h.key];omega)])).2,h.val⟩;rw[Pr.list,List.mem_append,List.mem_map,List.mem_singleton] at hu;rcases hu with⟨c,_,rfl⟩|rfl
 · rfl
 rw[e];rfl
theorem K7.two {nb:Nat} {w w':World} {er n:Int} {E:Av} {e:Ending} (h:K7 nb w er n E e w'):∃X v,e=.returned (.tuple #[.agg X,.int .i64 (KE er n E)])∧GA w' X v (IP er n E)∧∀j,v.ownBlock=some j→j<nb∨w.heap.size≤j:=by
 obtain⟨_,⟨h0,rfl⟩|⟨h0,hn,rfl⟩|⟨h0,k,x,rfl,hx,hg,hown,rfl⟩⟩:=h
 · refine⟨Di,.slice none 0 0,by unfold KE;rw[if_pos h0],?_⟩
   unfold IP;rw[if_neg (fun h=>h0 h.1)];exact⟨MX _,fun j hj=>by cases hj⟩
 · refine⟨Di,.slice none 0 0,?_,?_⟩
   · unfold KE
     by_cases h1:n<0
     · simp[h0,h1]
     simp[h0,h1,show(E.length:Int)≤n by omega]
   unfold IP;by_cases h1:0≤n
   · rw[if_pos ⟨h0,h1⟩,List.getElem?_eq_none (by omega)]
     exact⟨MX _,fun j hj=>by cases hj⟩
   rw[if_neg (fun h=>h1 h.2)];exact⟨MX _,fun j hj=>by cases hj⟩
 have hk:=(List.getElem?_eq_some_iff.1 hx).1;refine⟨x.cells,x.vv,?_,?_⟩
 · unfold KE
   rw[if_neg (by simpa using h0),if_neg (by omega),if_neg (by omega)]
 unfold IP;rw[if_pos ⟨h0,by omega⟩,Int.toNat_natCast,hx];exact⟨XS hg,hown⟩
theorem GA.adds {w w':World} {X:Array Value} {v:Value} {p:List UInt8×List UInt8} (h:GA w X v p) (a:AN w w'):GA w' X v p:=⟨h.size,h.one,h.key,h.val,h.bytes.Ae a (fun _ _ h=>h)⟩
theorem GA.Ew {w:World} {X:Array Value} {v:Value} {p:List UInt8×List UInt8} {g:Nat} (h:GA w X v p) (hg:∀j,v.ownBlock=some j→j≠g):GA (w.setRow g X) X v p :=
 ⟨h.size,h.one,h.key,h.val,h.bytes.Ae (((Ch.refl (fun j=>j=g) w).setRow (.inl rfl) X)) (fun j hj e=>hg j hj e)⟩
end Go.Proofs.YtngbdbpofifimaaGreat.Store
namespace Go.Proofs.YtngbdbpofifimaaGreat.Store
open Go.RowKit Go.Sort Go.Proofs.YtngbdbpofifimaaGreat.ShaW Go.Proofs.YtngbdbpofifimaaGreat.Path Go.Proofs.YtngbdbpofifimaaGreat.Bk
section
variable {w : World} {s : Nat} {F : Nat→Prop} {σ : AG Nd} {root : Int}
theorem Rt (h:At w s F σ) (h0:AX σ root≠0):Calls Tryz.prog 72 #[.pointer (some ⟨s,0,none⟩),.int .i64 root] w fun e w'=>e=.returned (.tuple #[.int .i64 0,.int .i64 (AX σ root)])∧AN w w':=by
 have hrt:=Store.CU h root;obtain⟨er,her⟩:∃er,er=AX σ root:=⟨_,rfl⟩
 rw[←her] at hrt h0 ⊢;have hb:(er != 0)=true:=by simpa using h0
 have HR:=Lib.hid hrt;clear hrt h h0 her;go_enter Tryz.func72,Tryz.ntmps72;go_wp2_with fail;refine HR.out.mono ?_;rintro e w1 ⟨rfl,a1⟩;have A1:=Lib.hid a1;clear a1;go_wp2;go_ret2;exact⟨rfl,A1.out⟩
theorem T5 (h:At w s F σ) (h0:AX σ root≠0) (K:Array Value):Calls Tryz.prog 74 #[.pointer (some ⟨s,0,none⟩),.int .i64 root,.agg K] w fun e w'=>e=.returned (.tuple #[.int .i64 0,.int .i64 (AX σ root)])∧AN w w':=by
 have hrt:=fun w1 (a:AN w w1)=>Store.CU (h.adds a) root
 obtain⟨er,her⟩:∃er,er=AX σ root:=⟨_,rfl⟩
 rw[←her] at hrt h0 ⊢;have hb:(er != 0)=true:=by simpa using h0
 have HR:=Lib.hid hrt;clear hrt h h0 her;go_enter Tryz.func74,Tryz.ntmps74;go_wp2_with fail;refine(HR.out _ ((Ch.refl _ _).alloc _)).mono ?_;rintro e w1 ⟨rfl,a1⟩;have A1:=Lib.hid (((Ch.refl (fun _=>False) w).alloc (.cells K 47)).trans a1 (fun _=>fEq));clear a1;go_wp2;go_ret2;exact⟨rfl,A1.out⟩
theorem PM (h:At w s F σ) (h0:AX σ root≠0) (K J:Array Value):Calls Tryz.prog 78 #[.pointer (some ⟨s,0,none⟩),.int .i64 root,.agg K,.agg J] w fun e w'=>e=.returned (.tuple #[.int .i64 0,.int .i64 (AX σ root)])∧AN w w':=by
 have hrt:=fun w1 (a:AN w w1)=>Store.CU (h.adds a) root
 obtain⟨er,her⟩:∃er,er=AX σ root:=⟨_,rfl⟩
 rw[←her] at hrt h0 ⊢;have hb:(er != 0)=true:=by simpa using h0
 have HR:=Lib.hid hrt;clear hrt h h0 her;go_enter Tryz.func78,Tryz.ntmps78;go_wp2_with fail;refine(HR.out _ (((Ch.refl _ _).alloc _).alloc _)).mono ?_;rintro e w1 ⟨rfl,a1⟩;have A1:=Lib.hid ((((Ch.refl (fun _=>False) w).alloc (.cells K 47)).alloc (.cells J 47)).trans a1 (fun _=>fEq));clear a1;go_wp2;go_ret2;exact⟨rfl,A1.out⟩
theorem VE (h:At w s F σ) (h0:AX σ root≠0) (K:Array Value) (most:Int):Calls Tryz.prog 26 #[.pointer (some ⟨s,0,none⟩),.int .i64 root,.agg K,.int .i64 most] w fun e w'=>e=.returned (.tuple #[.slice none 0 0,.int .i64 (AX σ root)])∧AN w w':=by
 have hrt:=fun w1 (a:AN w w1)=>Store.CU (h.adds a) root
 obtain⟨er,her⟩:∃er,er=AX σ root:=⟨_,rfl⟩
 rw[←her] at hrt h0 ⊢;have hb:(er != 0)=true:=by simpa using h0
 have HR:=Lib.hid hrt;clear hrt h h0 her;go_enter Tryz.func26,Tryz.ntmps26;go_wp2_with fail;refine(HR.out _ ((Ch.refl _ _).alloc _)).mono ?_;rintro e w1 ⟨rfl,a1⟩;have A1:=Lib.hid (((Ch.refl (fun _=>False) w).alloc (.cells K 47)).trans a1 (fun _=>fEq));clear a1;go_wp2;go_ret2;exact⟨rfl,A1.out⟩
theorem WH (h:At w s F σ) (h0:AX σ root≠0) (n:Int):Calls Tryz.prog 76 #[.pointer (some ⟨s,0,none⟩),.int .i64 root,.int .i64 n] w fun e w'=>e=.returned (.tuple #[.agg Di,.int .i64 (AX σ root)])∧AN w w':=by
 obtain⟨Z,hZ⟩:∃Z,Z=Di:=⟨_,rfl⟩
 obtain⟨hz0,hz1,hz2,hz3⟩:=Hj;rw[←hZ] at hz0 hz1 hz2 hz3 ⊢;have ha:AN w (w.alloc (.cells Z 86)):=(Ch.refl _ _).alloc _;have hrt:=Store.CU (h.adds ha) root;obtain⟨er,her⟩:∃er,er=AX σ root:=⟨_,rfl⟩
 rw[←her] at hrt h0 ⊢;have hb:(er != 0)=true:=by simpa using h0
 have HR:=Lib.hid hrt;have HA:=Lib.hid ha;have HZ:=(hIq hz0 (aIq hz1 (aIq hz2 hz3)))
 have HROW:=Lib.hid (heap_alloc_new w (.cells Z 86));clear hrt h h0 her hZ hz0 hz1 hz2 hz3 ha;go_enter Tryz.func76,Tryz.ntmps76;go_wp2_with (first|fail|((with_reducible show zOq (.alloc 86));refine AO rfl 86 rfl (.agg Z) HZ.out.1 ?_;dsimp only[Value.cells];try simp only[World.size_alloc]));refine HR.out.mono ?_;rintro e w1 ⟨rfl,a1⟩;have A1:=(hIq (HA.out.trans a1 (fun _=>fEq)) (a1.row HROW.out id))
 clear a1
 go_wp2_with (first
  | fail
  | ((with_reducible show zOq (.build 86 #[]));refine Ax rfl 86 rfl Z HZ.out.2.2.2 ?_)
  | ((with_reducible show zOq (.store 86 _ _));refine AI rfl 86 _ _ rfl w.heap.size 0 Z rfl rfl A1.out.2 (by rw[B8,HZ.out.2.1]) (by rw[HZ.out.2.1];omega) HZ.out.2.2.1 Z (by rw[AT _ _ rfl]) ?_))
 exact Al (p:=6) (u:=7) rfl rfl (AK A1.out.2 _) Tryz.underlying86 rfl (by rw[B8,HZ.out.2.1]) rfl ⟨rfl,A1.out.1.setRow (.inr (Nat.le_refl _)) _⟩
end
def inB (a b k:List UInt8):Bool:=decide (0≤Lib.compareBytes k a)&&decide (Lib.compareBytes k b≤0)
def btw (ks:List (List UInt8)) (a b:List UInt8):Nat:=ks.countP (inB a b)
theorem Sm {ks:List (List UInt8)} {a b k:List UInt8} {i:Nat} (h:ks[i]?=some k):btw (ks.take (i+1)) a b=btw (ks.take i) a b+if inB a b k=true then 1 else 0:=by
 unfold btw;rw[List.take_add_one,h,List.countP_append];simp[List.countP_cons]
theorem Vh (ks:List (List UInt8)) (a b:List UInt8):btw ks a b≤ks.length:=List.countP_le_length
section
variable {w0 w w' : World} {b : Nat} {F G : Nat→Prop} {σ : AG Nd} {root : Int} {T : Tr} {kf kt : List UInt8}
theorem N9 (h:ROw w0 w b σ G) (GG:Good σ) (hT:AX σ root=0→Rep (sk σ) root 0 T) (hlv:T.leaves≤65536) (hf:kf.length=32) (ht:kt.length=32) :
 Calls Tryz.prog 79 #[.pointer (some ⟨b,0,none⟩),.int .i64 root,.agg (AS kf),.agg (AS kt)] w fun e w'=>e=.returned (.tuple #[.int .i64 ((btw ((BE σ root T).map (·.1)) kf kt:Nat):Int),.int .i64 (AX σ root)])∧AN w w':=by
 have hal:=fun w1 (a:AN w w1)=>GW h GG hT hlv a
 have hel:=EZ (σ:=σ) (root:=root) hlv;obtain⟨er,her⟩:∃er,er=AX σ root:=⟨_,rfl⟩
 obtain⟨E,hE⟩:∃E,E=BE σ root T:=⟨_,rfl⟩
 rw[←her, ←hE] at hal;rw[←hE] at hel;rw[←her, ←hE];obtain⟨ks,hks⟩:∃ks,ks=E.map (·.1):=⟨_,rfl⟩
 rw[←hks];obtain⟨tot,htot⟩:∃t,t=btw ks kf kt:=⟨_,rfl⟩
 rw[←htot];have HTOT:=Lib.hid htot;clear htot;obtain⟨A,hA⟩:∃K,K=AS kf:=⟨_,rfl⟩
 obtain⟨B,hB⟩:∃K,K=AS kt:=⟨_,rfl⟩
 have hAs:A.size=32:=by rw[hA,AU,hf]
 have hBs:B.size=32:=by rw[hB,AU,ht]
 rw[←hA, ←hB];obtain⟨w2,hw2⟩:∃w2,w2=(w.alloc (.cells A 47)).alloc (.cells B 47):=⟨_,rfl⟩
 have ga:w2.heap[w.heap.size]?=some (.cells A 47 (0,0)):=by rw[hw2];exact AQ (heap_alloc_new _ _) _
 have gb:w2.heap[w.heap.size+1]?=some (.cells B 47 (0,0)):=by
  rw[hw2];have:=heap_alloc_new (w.alloc (.cells A 47)) (.cells B 47);rw[World.size_alloc] at this;exact this
 have a2:AN w w2:=by rw[hw2];exact((Ch.refl _ _).alloc _).alloc _
 have HR:=(hIq (hal w2 a2) (aIq hel hks))
 have HK:=(hIq hAs (aIq hBs (aIq hA (aIq hB (aIq hf ht)))))
 have H2:=(hIq a2 (aIq ga gb))
 have W2:=Lib.hid hw2;clear hal h hT hlv her hE hel hks hA hB hAs hBs hf ht hw2 ga gb a2;go_enter Tryz.func79,Tryz.ntmps79;go_wp2_with fail;rw[←W2.out];refine HR.out.1.mono ?_;rintro e w3 ⟨a3,ao,out,cap,rfl,hrow,hgd,he,_⟩;obtain⟨ao2,cap2,e2,hp⟩:=FD hrow hgd;have e21:ao2=ao:=by injection e2 with h _ _;exact h.symm
 rw[e21] at hp;obtain⟨n,hn⟩:∃n,n=out.length:=⟨_,rfl⟩
 rw[←hn];have hmm:out.map (·.key)=ks:=by rw[HR.out.2.2, ←he,List.map_map];rfl
 have hn6:n≤65536:=by have:=HR.out.2.1;rw[←he,List.length_map] at this;omega
 have hend:btw (ks.take n) kf kt=btw ks kf kt:=by rw[List.take_of_length_le (by rw[←hmm,List.length_map,hn];exact Nat.le_refl _)]
 have htot:=HTOT.out.trans hend.symm;have H3:=(hIq a3 (aIq hp (aIq hmm (aIq hn (aIq htot (aIq (a3.row H2.out.2.1 id) (a3.row H2.out.2.2 id)))))))
 obtain⟨ba,hba⟩:∃x,x=w.heap.size:=⟨_,rfl⟩
 rw[←hba] at H3 ⊢;obtain⟨bb,hbb⟩:∃x,x=ba+1:=⟨_,rfl⟩
 rw[←hbb] at H3 ⊢;clear a3 hrow hgd he e2 e21 hp hmm hn hend htot hba hbb;go_wp2_with fail;go_loopg [12,13] n (fun gg s12 s13 wr=>∃i m:Nat,i≤n∧gg=n-i∧s13=.int .i64 i∧s12=.int .i64 m∧m=btw (ks.take i) kf kt∧AN w3 wr)
 case atStart=>exact⟨0,0,Nat.zero_le _,rfl,rfl,rfl,by simp[btw],Ch.refl _ _⟩
 obtain⟨i,m,hi,rfl,rfl,rfl,hm,ha⟩:=hrel;have HA:=(hIq hm ha)
 have hm6:m≤65536:=by have:=Vh (ks.take i) kf kt;rw[List.length_take, ←hm] at this;omega
 clear hm ha;by_cases hin:i<n
 · have e1:(i:Int)<(n:Int):=by omega
   have e1':decide ((i:Int)<(n:Int))=true:=decide_eq_true e1;obtain⟨x,hx⟩:∃x,out[i]?=some x:=⟨_,List.getElem?_eq_getElem (by have:=H3.out.2.2.2.1;omega)⟩
   obtain⟨g,off,rfl,cur,ty,fr,c1,c2,c3⟩:=H3.out.2.1.2 i x hx;have hgx:=H3.out.2.1.1 x (List.mem_of_getElem? hx);rw[Pr.size hgx.key] at c2 c3;obtain⟨c4,_⟩:=CG hgx.key c3;have hst:=Sm (ks:=ks) (a:=kf) (b:=kt) (i:=i) (k:=x.key) (by rw[←H3.out.2.2.1,List.getElem?_map,hx];rfl);have hc1:=fun w1=>Er x.key kf hgx.key HK.out.2.2.2.2.1 w1
   have hc2:=fun w1=>Er x.key kt hgx.key HK.out.2.2.2.2.2 w1
   rw[←HK.out.2.2.1] at hc1;rw[←HK.out.2.2.2.1] at hc2;obtain⟨X,hX⟩:∃X,X=AS x.key:=⟨_,rfl⟩
   obtain⟨v1,hv1⟩:∃cv,cv=Lib.compareBytes x.key kf:=⟨_,rfl⟩
   obtain⟨v2,hv2⟩:∃cv,cv=Lib.compareBytes x.key kt:=⟨_,rfl⟩
   rw[←hX] at hc1 hc2 c4;rw[←hv1] at hc1;rw[←hv2] at hc2;unfold inB at hst;rw[←hv1, ←hv2] at hst;have HX:=(hIq (HA.out.2.row c1 id) (aIq c2 (aIq c4 (aIq hc1 (aIq hc2 (aIq hst (aIq (HA.out.2.row H3.out.2.2.2.2.2.1 id) (HA.out.2.row H3.out.2.2.2.2.2.2 id))))))))
   have hwm:wrap64 ((m:Int)+1)=(m:Int)+1:=by unfold wrap64;omega
   have hwi:wrap64 ((i:Int)+1)=(i:Int)+1:=by unfold wrap64;omega
   clear hx c1 c2 c3 c4 hgx hst hc1 hc2 hX hv1 hv2;go_upto_region 6 with fail;by_cases h1:0≤v1
   · have f1:decide (0≤v1)=true:=decide_eq_true h1
     refine AP (fun wz=>wz.heap[ba]?=some (.cells A 47 (0,0))∧wz.heap[bb]?=some (.cells B 47 (0,0))∧wz.heap[g]?=some (.cells cur ty fr)) 18 [(0,false),(1,false),(2,false),(3,false),(4,false),(5,false),(6,true),(7,false),(8,false),(9,false),(10,false),(11,false),(12,false),(13,false),(14,false),(15,true),(16,false),(17,false)] (by kernel_rfl) (by kernel_rfl) ?_ ?_
     · exact⟨AM HX.out.2.2.2.2.2.2.1,AM HX.out.2.2.2.2.2.2.2,AM HX.out.1⟩
     iterate 4
      refine plan_look rfl rfl (fun w0 hS=>(by clear hS;go_simp;try rfl)) ?_;simp only[Act.put,nAq,nBq,nCq]
     refine Bk.Ay (cur:=cur) (t:=ty) (fr:=fr) rfl rfl 47 _ rfl g (off+i*33) 32 rfl (fun w0 hS=>hS.2.2) Tryz.underlying47 rfl Ab (by have:=HX.out.2.1;omega) X HX.out.2.2.1 ?_;simp only[Act.put,nAq,nBq,nCq];refine Bk.Ay (cur:=A) (t:=47) (fr:=(0,0)) rfl rfl 47 _ rfl ba 0 32 rfl (fun w0 hS=>hS.1) Tryz.underlying47 rfl Ab (by rw[HK.out.1];omega) A (by have:=HK.out.1;simp[←this]) ?_;simp only[Act.put,nAq,nBq,nCq];refine AW rfl ?_;go_wp2_with fail;refine(HX.out.2.2.2.1 _).mono ?_;rintro e w4 ⟨rfl,a4⟩;have A4:=Lib.hid ((Ch.refl (fun _=>False) wr).drew.trans a4 (fun _=>fEq));clear a4;dsimp only;go_step;refine wpList_nil ?_;change _∧_;refine⟨⟨A4.out.row HX.out.2.2.2.2.2.2.1 id,A4.out.row HX.out.2.2.2.2.2.2.2 id,A4.out.row HX.out.1 id⟩,?_⟩
     iterate 2
      refine plan_look (v:=.bool true) rfl rfl (fun w0 hS=>(by clear hS;go_simp;try rfl)) ?_;simp only[Act.put,nAq,nBq,nCq]
     iterate 4
      refine plan_look rfl rfl (fun w0 hS=>(by clear hS;go_simp;try rfl)) ?_;simp only[Act.put,nAq,nBq,nCq]
     refine Bk.Ay (cur:=cur) (t:=ty) (fr:=fr) rfl rfl 47 _ rfl g (off+i*33) 32 rfl (fun w0 hS=>hS.2.2) Tryz.underlying47 rfl Ab (by have:=HX.out.2.1;omega) X HX.out.2.2.1 ?_;simp only[Act.put,nAq,nBq,nCq];refine Bk.Ay (cur:=B) (t:=47) (fr:=(0,0)) rfl rfl 47 _ rfl bb 0 32 rfl (fun w0 hS=>hS.2.1) Tryz.underlying47 rfl Ab (by rw[HK.out.2.1];omega) B (by have:=HK.out.2.1;simp[←this]) ?_;simp only[Act.put,nAq,nBq,nCq];refine AW rfl ?_;go_wp2_with fail;refine(HX.out.2.2.2.2.1 _).mono ?_;rintro e w5 ⟨rfl,a5⟩;have A5:=Lib.hid (A4.out.trans a5 (fun _=>fEq));clear a5;dsimp only;go_step;refine wpList_nil ?_;change _∧_;refine⟨⟨A5.out.row HX.out.2.2.2.2.2.2.1 id,A5.out.row HX.out.2.2.2.2.2.2.2 id,A5.out.row HX.out.1 id⟩,?_⟩;by_cases h2:v2≤0
     · have f2:decide (v2≤0)=true:=decide_eq_true h2
       have hs:RowKit.Hid (m+1=btw (ks.take (i+1)) kf kt):=Lib.hid (by rw[HX.out.2.2.2.2.2.1,f1,f2, ←HA.out.1];rfl)
       iterate 2
        refine plan_look (v:=.bool true) rfl rfl (fun w0 hS=>(by clear hS;go_simp;try rfl)) ?_;simp only[Act.put,nAq,nBq,nCq]
       refine AZ ?_;simp only[List.drop_succ_cons,List.drop_zero];go_wp2;refine NoPanic.normal ?_;go_wp2;go_roundg (n-(i+1))
       case measure=>omega
       exact⟨i+1,m+1,by omega,rfl,by first|(simp;done)|(simp[hwi];done),by first|(simp;done)|(simp[hwm];done),hs.out,HA.out.2.trans A5.out (fun _=>fEq)⟩
     have f2:decide (v2≤0)=false:=decide_eq_false h2;have hs:RowKit.Hid (m=btw (ks.take (i+1)) kf kt):=Lib.hid (by rw[HX.out.2.2.2.2.2.1,f1,f2, ←HA.out.1];rfl)
     iterate 2
      refine plan_look (v:=.bool false) rfl rfl (fun w0 hS=>(by clear hS;go_simp;try rfl)) ?_;simp only[Act.put,nAq,nBq,nCq]
     refine AZ ?_;simp only[List.drop_succ_cons,List.drop_zero];go_wp2;refine NoPanic.normal ?_;go_wp2;go_roundg (n-(i+1))
     case measure=>omega
     exact⟨i+1,m,by omega,rfl,by first|(simp;done)|(simp[hwi];done),rfl,hs.out,HA.out.2.trans A5.out (fun _=>fEq)⟩
   have f1:decide (0≤v1)=false:=decide_eq_false h1;have hs:RowKit.Hid (m=btw (ks.take (i+1)) kf kt):=Lib.hid (by rw[HX.out.2.2.2.2.2.1,f1, ←HA.out.1];rfl);refine AP (fun wz=>wz.heap[ba]?=some (.cells A 47 (0,0))∧wz.heap[bb]?=some (.cells B 47 (0,0))∧wz.heap[g]?=some (.cells cur ty fr)) 18 [(0,false),(1,false),(2,false),(3,false),(4,false),(5,false),(6,true),(7,false),(8,false),(9,false),(10,false),(11,false),(12,false),(13,false),(14,false),(15,false),(16,false),(17,false)] (by kernel_rfl) (by kernel_rfl) ?_ ?_
   · exact⟨AM HX.out.2.2.2.2.2.2.1,AM HX.out.2.2.2.2.2.2.2,AM HX.out.1⟩
   iterate 4
    refine plan_look rfl rfl (fun w0 hS=>(by clear hS;go_simp;try rfl)) ?_;simp only[Act.put,nAq,nBq,nCq]
   refine Bk.Ay (cur:=cur) (t:=ty) (fr:=fr) rfl rfl 47 _ rfl g (off+i*33) 32 rfl (fun w0 hS=>hS.2.2) Tryz.underlying47 rfl Ab (by have:=HX.out.2.1;omega) X HX.out.2.2.1 ?_;simp only[Act.put,nAq,nBq,nCq];refine Bk.Ay (cur:=A) (t:=47) (fr:=(0,0)) rfl rfl 47 _ rfl ba 0 32 rfl (fun w0 hS=>hS.1) Tryz.underlying47 rfl Ab (by rw[HK.out.1];omega) A (by have:=HK.out.1;simp[←this]) ?_;simp only[Act.put,nAq,nBq,nCq];refine AW rfl ?_;go_wp2_with fail;refine(HX.out.2.2.2.1 _).mono ?_;rintro e w4 ⟨rfl,a4⟩;have A4:=Lib.hid ((Ch.refl (fun _=>False) wr).drew.trans a4 (fun _=>fEq));clear a4;dsimp only;go_step;refine wpList_nil ?_;change _∧_;refine⟨⟨A4.out.row HX.out.2.2.2.2.2.2.1 id,A4.out.row HX.out.2.2.2.2.2.2.2 id,A4.out.row HX.out.1 id⟩,?_⟩
   iterate 2
    refine plan_look (v:=.bool false) rfl rfl (fun w0 hS=>(by clear hS;go_simp;try rfl)) ?_;simp only[Act.put,nAq,nBq,nCq]
   iterate 8
    refine BN rfl rfl ?_;simp only[Act.put,nAq,nBq,nCq]
   refine plan_look (v:=.bool false) rfl rfl (fun w0 hS=>(by clear hS;go_simp;try rfl)) ?_;simp only[Act.put,nAq,nBq,nCq];refine AZ ?_;simp only[List.drop_succ_cons,List.drop_zero];go_wp2;refine NoPanic.normal ?_;go_wp2;go_roundg (n-(i+1))
   case measure=>omega
   exact⟨i+1,m,by omega,rfl,by first|(simp;done)|(simp[hwi];done),rfl,hs.out,HA.out.2.trans A4.out (fun _=>fEq)⟩
 have e1:¬(i:Int)<(n:Int):=by omega
 have e1':decide ((i:Int)<(n:Int))=false:=decide_eq_false e1;have he:m=tot:=by rw[H3.out.2.2.2.2.1,HA.out.1,show i=n by omega]
 go_wp2;go_ret2;exact⟨by first|rfl|(rw[he];rfl),(H2.out.1.trans H3.out.1 (fun _=>fEq)).trans HA.out.2 (fun _=>fEq)⟩
end
end Go.Proofs.YtngbdbpofifimaaGreat.Store
namespace Go.Proofs.YtngbdbpofifimaaGreat.Bk
open Go.RowKit Go.Proofs.YtngbdbpofifimaaGreat.ShaW Go.Proofs.YtngbdbpofifimaaGreat.Path Go.Proofs.YtngbdbpofifimaaGreat.Store
def Xj (l:List Pr):Av:=l.foldl (fun L p=>upd L p.key p.val) []
theorem RowP.VU {w:World} {b:Nat} {v:Value} {out:List Pr} (h:RowP w b v out) (hg:∀x∈out,x.Good w):∃ao cap,v=.slice ao out.length cap∧Ba w ao out:=by
 obtain⟨ao,cap,rfl⟩:=h.form;refine⟨ao,cap,rfl,hg,fun i x hx=>?_⟩;have hl:0<out.length:=by have:=(List.getElem?_eq_some_iff.1 hx).1;omega
 obtain⟨g,cap',cur,e1,_,hrow,hsz,hc,_⟩:=h.open (fun x hx=>(hg x hx).key) hl
 injection e1 with e1 _ _;subst e1;refine⟨g,0,rfl,cur,_,_,hrow,?_,?_⟩
 · rw[Pr.size (hg x (List.mem_of_getElem? hx)).key]
   have:=(List.getElem?_eq_some_iff.1 hx).1;omega
 rw[Pr.size (hg x (List.mem_of_getElem? hx)).key,Nat.zero_add];exact hc i x hx
structure Xm (w0 w:World) (s B:Nat) (root kept:Int) (σ:AG Nd) (L:Av) (lv tt:Nat):Prop where
 own:Ow w0 w s σ (fun j=>j=B)
 base:w0.heap.size≤B
 db:Db σ root L
 room:σ.room=8256
 live:Store.live σ≤lv
 total:Store.total σ≤tt
 row:∃hb:List UInt8,hb.length=32∧w.heap[B]?=some (.cells (AS hb) 35 (0,0))∧(kept≠0→1≤Store.held σ kept∧(kept=root→2≤Store.held σ root)∧CB σ kept=hb)

end Go.Proofs.YtngbdbpofifimaaGreat.Bk
namespace Go.Proofs.YtngbdbpofifimaaGreat.Law13
open Go.RowKit Go.Proofs.YtngbdbpofifimaaGreat.ShaW Go.Proofs.YtngbdbpofifimaaGreat.Path Go.Proofs.YtngbdbpofifimaaGreat.Store Go.Proofs.YtngbdbpofifimaaGreat.Bk
def XG (l:List Pr):Av:=l.foldl (fun L p=>upd L p.key p.val) []
structure Xv (w0 w:World) (s:Nat) (σ:AG Nd) (root:Int) (L:Av) (n:Nat) (k:Nat):Prop where
 own:Ow w0 w s σ (fun _=>False)
 db:Db σ root L
 room:σ.room=n
 total:Store.total σ≤1000*k
 live:Store.live σ≤258*k
 sole:XE σ root
def Wh:Av := [(WD 0,[97]),(WD 64,[98]),(WD 128,[99])]
end Go.Proofs.YtngbdbpofifimaaGreat.Law13

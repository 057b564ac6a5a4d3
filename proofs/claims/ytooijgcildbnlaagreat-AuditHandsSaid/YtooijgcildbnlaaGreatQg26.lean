/- Laws of the layers below. -/
import Derived.Lib.SliceRun
import Derived.Test.YtooijgcildbnlaaGreatQg25
set_option maxHeartbeats 3200000
set_option maxRecDepth 100000
set_option linter.unusedVariables false
namespace Go.Proofs.YtooijgcildbnlaaGreat.Store
open Go.RowKit Go.Sort Go.Proofs.YtooijgcildbnlaaGreat.ShaW Go.Proofs.YtooijgcildbnlaaGreat.Path
def Yo (a:Option Addr) (cap i:Nat):Option Addr:=if cap=i then a else a.map (·.add (i*1))
theorem SG:∃i,Tryz.prog.info? 3=some i∧i.zero=some (.int .i64 0)∧i.size=1∧i.bytes=8:=by
 obtain⟨i,h1,h2⟩:=Option.map_eq_some_iff.1 (by kernel_rfl:(Tryz.prog.info? 3).map (fun i=>(i.zero,i.size,i.bytes))=some (some (.int .i64 0),1,8));simp only[Prod.mk.injEq] at h2;exact⟨i,h1,h2.1,h2.2.1,h2.2.2⟩
theorem Hn {w:World} {ops:Array Oper} {rest:List Oper} {o:Oper} {a:Act} {Q:Exit→Act→World→Prop} (hgd:o.guard=none) (s x:Operand)
 (ho:o.op=.call { callee:=.builtin .append,args:=#[s,x],argTypes:=#[39,39] }) (v:Value) (n:Nat) (xs:List Int) (hs:a.eval s=v) (hown:w.ownsRow 0 3 1 v n (Ci xs))
 (ao:Option Addr) (m c:Nat) (l:List Int) (hx:a.eval x=.slice ao m c) (hI:Az w ao l) (hm:l.length=m) (hb:n+m≤1000000)
 (h:∀v' w',w'.ownsRow 0 3 1 v' (n+m) (Ci (xs++l))→w.grownBy w' v.ownBlock→(v'.ownBlock=v.ownBlock∨∀k,v'.ownBlock=some k→w.heap.size≤k)→wpList Tryz.prog ops Q rest (a.put o.dst v') w'):wpList Tryz.prog ops Q (o::rest) a w:=by
 obtain⟨i0,p1,p2,p3,p4⟩:=SG;rcases Nat.eq_zero_or_pos m with h0|h0
 · have hnil:l = []:=List.eq_nil_of_length_eq_zero (by omega)
   subst hnil;subst h0
   obtain⟨base,cap,e,hle⟩:∃base cap,v=.slice base n cap∧n≤cap:=by
    rcases hown.2 with⟨rfl,h1⟩|⟨g,cap,cur,rfl,_,_,h3,_⟩
    · exact⟨none,0,by rw[h1],by omega⟩
    exact⟨_,cap,rfl,h3⟩
   have hsrc:Src Tryz.prog i0.size 39 (.slice ao 0 c) 0 [] w:=by
    cases ao with
    | none=>exact Src.ofNil w Tryz.underlying39 c
    | some ad=>exact Src.ofSlice w Tryz.underlying39 ad 0 c [] (by simp) (fun j u hu=>by simp at hu) (fun u hu=>by cases hu)
   refine wpList_plain hgd fun _ hK=>?_
   have hrun:=run_append_nothing (P:=Tryz.prog) w 39 39 o.type 3 i0 Tryz.underlying39 p1 base n cap hle _ hsrc;subst e;unfold Oper.wp;simp[execOp,ho,resolve,invoke,builtin,hs,hx,hrun,Result.andThen];exact hK _ _ (h _ w (by rw[List.append_nil];exact hown) ⟨rfl,rfl,rfl,Nat.le_refl _,fun _ _ _=>rfl⟩ (.inl rfl))
 obtain⟨g,off,rfl,_⟩:=hI 0 l[0] (List.getElem?_eq_getElem (by omega));refine Ba hgd s x 39 ho 3 i0 (.int .i64 0) 1 8 Tryz.underlying39 p1 p2 p3 p4 rfl (by decide) v n (Ci xs) hs hown ⟨g,off,none⟩ m c (Ci l) hx (by simp[Ci,hm]) (fun j u hu=>?_) (fun u hu=>?_) (by unfold maxLen;omega) (by omega) ?_
 · unfold Ci at hu
   rw[List.getElem?_map] at hu;cases hj:l[j]? with
   | none=>rw[hj] at hu;cases hu
   | some y =>
    rw[hj] at hu;obtain rfl:=Option.some.inj hu;obtain⟨g',off',e,hc⟩:=hI j y hj;cases e;rw[add_plain];exact hc
 · unfold Ci at hu
   obtain⟨y,_,rfl⟩:=List.mem_map.1 hu;rfl
 intro v' w' q1 q2 q3;exact h v' w' (by unfold Ci at *;rw[List.map_append];exact q1) q2 q3
theorem Qz (w:World) (l:List Int):Az (w.alloc (.cells (Ci l).toArray 3)) (some ⟨w.heap.size,0,none⟩) l:=fun i x hx=>by
 refine⟨_,_,rfl,?_⟩;rw[Nat.zero_add];refine AG (heap_alloc_new w _) ?_;simp[Ci,hx]
theorem Oz {w w':World} {e b sz n:Nat} {v v':Value} {xs:List Value} (own:w'.ownsRow 0 e sz v' n xs) (hlow:∀k,v.ownBlock=some k→b≤k) (hb:b≤w.heap.size) (loc:v'.ownBlock=v.ownBlock∨∀k,v'.ownBlock=some k→w.heap.size≤k):w'.ownsRow b e sz v' n xs :=
 own.base (fun k hk=>by
  rcases loc with e|e
  · rw[e] at hk;exact hlow k hk
  have:=e k hk;omega)
end Go.Proofs.YtooijgcildbnlaaGreat.Store
namespace Go.Proofs.YtooijgcildbnlaaGreat.Store
open Go.RowKit Go.Proofs.YtooijgcildbnlaaGreat.ShaW Go.Proofs.YtooijgcildbnlaaGreat.Path
section
variable {σ : AD Nd} {R : List Int} {k : Wk} {x : Int}
theorem FJ.Tq (H:FJ σ R k) (x:Int):(k.want x).todo=if x≠0∧x∉k.todo then k.todo ++ [x] else k.todo:=by
 by_cases h0:x=0
 · subst h0;rw[Wk.Ei,if_neg (fun h=>h.1 rfl)]
 rw[Wk.Fu k h0];have h1:=H.mem x;by_cases hm:x∈k.todo
 · have:¬k.cnt x=0:=by have:=h1.1 hm;omega
   show(if k.cnt x=0 then k.todo ++ [x] else k.todo)=_
   rw[if_neg this,if_neg (fun h=>h.2 hm)]
 have:k.cnt x=0:=by
  by_cases e:k.cnt x=0
  · exact e
  exact absurd (h1.2 (by omega)) hm
 show(if k.cnt x=0 then k.todo ++ [x] else k.todo)=_
 rw[if_pos this,if_pos ⟨h0,hm⟩]
end
def EL (w0 w:World) (v:Value) (l:List Int):Prop:=(∃q qc,v=.slice q l.length qc∧w.ownsRow w0.heap.size 3 1 (.slice q l.length qc) l.length (Ci l))∧Adds w0 w
theorem EL.adds {w0 w w':World} {v:Value} {l:List Int} (h:EL w0 w v l) (a:Adds w w'):EL w0 w' v l:=by
 obtain⟨⟨q,qc,h1,h2⟩,h3⟩:=h;exact⟨⟨q,qc,h1,a.owns h2 (fun _ _ h=>h)⟩,h3.trans a (fun _=>fEq)⟩
theorem EL.base {w w3 w':World} {v:Value} {l:List Int} (h:EL w3 w' v l) (a:Adds w w3):EL w w' v l:=by
 obtain⟨⟨q,qc,h1,h2⟩,h3⟩:=h;exact⟨⟨q,qc,h1,h2.base (fun k hk=>Nat.le_trans a.size (h2.lt k hk).1)⟩,a.trans h3 (fun _=>fEq)⟩
theorem ML {w0 w:World} {ops:Array Oper} {rest:List Oper} {o:Oper} {a:Act} {Q:Exit→Act→World→Prop} (hgd:o.guard=none) (s x:Operand)
 (ho:o.op=.call { callee:=.builtin .append,args:=#[s,x],argTypes:=#[39,39] }) (v:Value) (l:List Int) (hs:a.eval s=v) (y:Int) (hm:EL w0 w v l) (hl:l.length≤100000)
 (hx:a.eval x=.slice (some ⟨w.heap.size,0,none⟩) 1 1)
 (h:∀v' w',EL w0 w' v' (l ++ [y])→wpList Tryz.prog ops Q rest (a.put o.dst v') w'):wpList Tryz.prog ops Q (o::rest) a (w.alloc (.cells (Ci [y]).toArray 3)):=by
 obtain⟨⟨q,qc,rfl,h2⟩,h3⟩:=hm;have a0:Adds w (w.alloc (.cells (Ci [y]).toArray 3)):=(Ch.refl _ w).alloc _;refine Hn hgd s x ho (.slice q l.length qc) l.length l hs ((a0.owns h2 (fun _ _ h=>h)).base (fun _ _=>Nat.zero_le _)) _ 1 1 [y] hx (Qz w [y]) rfl (by omega) ?_;intro v' w' own' grow' loc';have hlow:∀k,(Value.slice q l.length qc).ownBlock=some k→w0.heap.size≤k:=fun k hk=>(h2.lt k hk).1
 obtain⟨qo,qc',rfl⟩:=Ar own';refine h _ w' ⟨⟨qo,qc',?_,?_⟩,(h3.alloc _).grown grow' (fun k hk=>.inr (hlow k hk))⟩
 · rw[List.length_append];rfl
 have:=Oz own' hlow (by have:=h3.size;simp;omega) loc';rw[List.length_append];exact this
section
variable {w0 w : World} {b : Nat} {σ : AD Nd} {G : Nat→Prop} {ao : Option Addr} {R : List Int}
theorem IK (h:ROw w0 w b σ G) (GG:Good σ) (cap:Nat) (hR:Az w ao R) (hl:R.length<4611686018427387904) (hc:chk σ R≠0) :
 Calls Tryz.prog 95 #[.pointer (some ⟨b,0,none⟩),.slice ao R.length cap] w fun e w'=>e=.returned (.tuple #[.slice none 0 0,.int .i64 (chk σ R)])∧Adds w w':=by
 have hk:=G8 h GG cap hR hl;obtain⟨c,hcc⟩:∃c,c=chk σ R:=⟨_,rfl⟩
 rw[←hcc] at hk hc ⊢;obtain⟨n,hn⟩:∃n,n=R.length:=⟨_,rfl⟩
 rw[←hn] at hk ⊢;have HK:=Lib.hid hk;have hcb:(c != 0)=true:=by simpa using hc
 clear hk hcc hn hR h hl hc;go_enter Tryz.func95,Tryz.ntmps95;go_wp2_with fail;refine HK.out.mono ?_;rintro e w1 ⟨rfl,a1⟩;have A1:=Lib.hid a1;clear a1;go_wp2;go_ret2;exact⟨rfl,A1.out⟩
theorem He (h:ROw w0 w b σ G) (GG:Good σ) (cap:Nat) (hR:Az w ao R) (hc:chk σ R=0) :
 Calls Tryz.prog 95 #[.pointer (some ⟨b,0,none⟩),.slice ao R.length cap] w fun e w'=>∃v k,e=.returned (.tuple #[v,.int .i64 0])∧Wanting σ R k.todo.length k∧EL w w' v (Bx k.todo (Ac σ)):=by
 obtain⟨hl,hh⟩:=FO hc;have hk:=G8 h GG cap hR (by omega);rw[hc] at hk;obtain⟨N,hN⟩:∃N,N=R.length:=⟨_,rfl⟩
 rw[←hN] at hk hl ⊢;have hsd:=fun w1 (a:Adds w w1) x=>(h.adds a).sides GG x
 have hhd:=fun w1 (a:Adds w w1)=>(h.adds a).Ac GG
 have HK:=(hIq hk (aIq hsd hhd))
 have HR:=(hIq hR (aIq hN hh))
 have HG:=Lib.hid GG;clear hk hsd hhd hR hN hh h GG hc;go_enter Tryz.func95,Tryz.ntmps95;go_wp2_with fail;refine HK.out.1.mono ?_;rintro e w1 ⟨rfl,a1⟩;have A1:=Lib.hid a1;clear a1;go_wp2;go_loopg [7,8] N (fun g s7 s8 wr=>∃(i:Nat) (k:Wk),s8=.int .i64 i∧i+g=N∧EL w wr s7 k.todo∧Wanting σ (R.take i) 0 k)
 case atStart=>exact⟨0,Wk.start,rfl,by omega,⟨⟨none,0,rfl,World.ownsRow_nil _ _ _ _⟩,A1.out⟩,Wanting.start σ⟩
 obtain⟨i,k,rfl,hi,hM,hK⟩:=hrel;have hsm:k.todo.length≤65536:=hK.len HG.out.sound;obtain⟨⟨q,qc,rfl,hown⟩,hA⟩:=hM;have hI:=Az.own hown;obtain⟨len,hlen⟩:∃len,len=k.todo.length:=⟨_,rfl⟩
 have HM:=(hIq (show EL w wr (.slice q k.todo.length qc) k.todo from⟨⟨q,qc,rfl,hown⟩,hA⟩) (aIq hK hI.1))
 rw[←hlen] at HM hsm ⊢;have HL:=Lib.hid hlen;clear hown hA hK hI hlen;by_cases hin:i=N
 · subst hin
   have hlt:¬(i:Int)<(i:Int):=by omega
   have hK0:Wanting σ R 0 k:=by
    have:=HM.out.2.1
    rwa [List.take_of_length_le (Nat.le_of_eq HR.out.2.1.symm)] at this
   have HS:=(hIq HM.out.1 hK0)
   clear hK0 hi HM;go_wp2;go_loopg [7,9,10,11] 70000 (fun g s7 s9 s10 s11 wr=>∃(j:Nat) (k:Wk),s9=.int .i64 j∧j+g=70000∧j≤k.todo.length∧EL w wr s7 k.todo∧Wanting σ R j k)
   case atStart=>exact⟨0,k,rfl,rfl,Nat.zero_le _,HS.out.1,HS.out.2⟩
   obtain⟨j,k2,rfl,hj,hjl,hM,hK⟩:=hrel;have hsm2:k2.todo.length≤65536:=hK.len HG.out.sound;obtain⟨⟨q2,qc2,rfl,hown⟩,hA⟩:=hM;have hI:=Az.own hown;obtain⟨len2,hlen⟩:∃len,len=k2.todo.length:=⟨_,rfl⟩
   have HM:=(hIq (show EL w wr (.slice q2 k2.todo.length qc2) k2.todo from⟨⟨q2,qc2,rfl,hown⟩,hA⟩) (aIq hK (aIq hI.1 hA)))
   rw[←hlen] at HM hsm2 hjl ⊢;have HL2:=Lib.hid hlen;clear hown hA hK hI hlen HS;by_cases hjn:j=len2
   · subst hjn
     have hlt2:¬(j:Int)<(j:Int):=by omega
     have hK2:Wanting σ R k2.todo.length k2:=by have:=HM.out.2.1;rwa [HL2.out] at this
     have HK2:=Lib.hid hK2;have HHD:=Lib.hid (HK.out.2.2 _ HM.out.2.2.2);clear hK2 hj;go_wp2_with fail;refine HHD.out.mono ?_;rintro e w3 ⟨v3,rfl,o3,a3⟩;have hhs:(Ac σ).length≤65536:=Ew HG.out;obtain⟨vo,vc,rfl⟩:=Ar o3
     have hi3:Az w3 vo ((Ac σ).map fun n:Nat=>(n:Int)):=by
      have:ints (Ac σ)=Ci ((Ac σ).map fun n:Nat=>(n:Int)):=by simp[ints,Ci,List.map_map]
      rw[this] at o3;exact(Az.own o3).1
     obtain⟨L,hL⟩:∃L,L=(Ac σ).length:=⟨_,rfl⟩
     rw[←hL] at hhs ⊢;have H3:=(hIq hi3 (aIq (HM.out.2.2.1.adds a3) (aIq (HM.out.2.2.2.trans a3 (fun _=>fEq)) hL)))
     clear hi3 o3 a3 hL HHD;go_wp2;go_loopg [12,14] L (fun g s12 s14 wr=>∃i:Nat,s14=.int .i64 i∧i+g=L∧EL w3 wr s12 (Bx k2.todo ((Ac σ).take i)))
     case atStart=>exact⟨0,rfl,by omega,⟨⟨none,0,rfl,World.ownsRow_nil _ _ _ _⟩,Ch.refl _ _⟩⟩
     obtain⟨i3,rfl,hi3,hM3⟩:=hrel;obtain⟨⟨q3,qc3,rfl,hown3⟩,hA4⟩:=hM3;have hr3:=Hm k2.todo ((Ac σ).take i3);rw[List.length_take] at hr3;obtain⟨l3,hl3⟩:∃l3,l3=(Bx k2.todo ((Ac σ).take i3)).length:=⟨_,rfl⟩
     have hl36:l3≤65536:=by have:=H3.out.2.2.2;omega
     have HM3:=(hIq (show EL w3 wr (.slice q3 (Bx k2.todo ((Ac σ).take i3)).length qc3) (Bx k2.todo ((Ac σ).take i3)) from⟨⟨q3,qc3,rfl,hown3⟩,hA4⟩) hA4)
     rw[←hl3] at HM3 ⊢;have HL3:=Lib.hid hl3;clear hown3 hA4 hl3 hr3;by_cases hi3n:i3=L
     · subst hi3n
       have hlt3:¬(i3:Int)<(i3:Int):=by omega
       clear hi3;go_wp2;go_ret2;refine⟨_,rfl,k2,HK2.out,?_⟩;have:=HM3.out.1;rw[List.take_of_length_le (Nat.le_of_eq H3.out.2.2.2.symm)] at this;exact this.base H3.out.2.2.1
     have hlt3:(i3:Int)<(L:Int):=by omega
     have hlt3':i3<L:=by omega
     obtain⟨g,rfl⟩:∃g,gk=g+1:=⟨gk-1,by omega⟩
     obtain⟨x,hx⟩:∃x,(Ac σ)[i3]?=some x:=⟨_,List.getElem?_eq_getElem (by have:=H3.out.2.2.2;omega)⟩
     obtain⟨g1,o1,rfl,q1⟩:=H3.out.1 i3 (x:Int) (by rw[List.getElem?_map,hx];rfl);have hin:=fun w1 (a:Adds wr w1)=>Mq qc2 (H3.out.2.1.adds (HM3.out.2.trans a (fun _=>fEq))) HL2.out.symm (by omega) (x:Int)
     have q1':=HM3.out.2.cell q1 id;have hsn:(Ac σ).take (i3+1)=(Ac σ).take i3 ++ [x]:=by rw[List.take_add_one,hx];rfl
     have hstep:=Og k2.todo ((Ac σ).take i3) x;rw[←hsn] at hstep;have HIN:=Lib.hid hin;have HST:=Lib.hid hstep;have HQ1:RowKit.Hid (∀w1,Adds wr w1→w1.cell? ⟨g1,o1+i3,none⟩=some (.int .i64 (x:Int))):=Lib.hid (fun w1 a=>a.cell q1' id);clear hx q1 hin hsn hstep;by_cases hm:(x:Int)∈k2.todo
     · have hmb:decide ((x:Int)∈k2.todo)=true:=decide_eq_true hm
       have HSE:=HST.out;rw[if_pos hm] at HSE;have HSE:=Lib.hid HSE;have hin2:=HIN.out wr (Ch.refl _ _);rw[hmb] at hin2;have HI2:=Lib.hid hin2;clear hm hmb hin2 HIN;go_wp2_with fail;refine HI2.out.mono ?_;rintro e w4 ⟨rfl,a4⟩;have q2':=HQ1.out _ a4;have hm4:=Lib.hid (HM3.out.1.adds a4);clear a4 q1'
       go_wp2_with (first
        | fail
        | (at_builtin;refine ML rfl _ _ rfl _ (Bx k2.todo ((Ac σ).take i3)) rfl (x:Int) hm4.out (by rw[←HL3.out];omega) rfl ?_;intro v' w5 hm5))
       go_roundg g
       case measure=>omega
       exact⟨i3+1,by simp,by omega,by rw[HSE.out];exact hm5⟩
     have hmb:decide ((x:Int)∈k2.todo)=false:=decide_eq_false hm;have HSE:=HST.out;rw[if_neg hm,List.append_nil] at HSE;have HSE:=Lib.hid HSE;have hin2:=HIN.out wr (Ch.refl _ _);rw[hmb] at hin2;have HI2:=Lib.hid hin2;clear hm hmb hin2 HIN;go_wp2_with fail;refine HI2.out.mono ?_;rintro e w4 ⟨rfl,a4⟩;have hm4:=Lib.hid (HM3.out.1.adds a4);clear a4 q1';go_wp2;go_roundg g
     case measure=>omega
     exact⟨i3+1,by simp,by omega,by rw[HSE.out];exact hm4.out⟩
   have hj1:(j:Int)<(len2:Int):=by omega
   have hj2:j<len2:=by omega
   obtain⟨g,rfl⟩:∃g,gk=g+1:=⟨gk-1,by omega⟩
   obtain⟨x,hx⟩:∃x,k2.todo[j]?=some x:=⟨_,List.getElem?_eq_getElem (by have:=HL2.out;omega)⟩
   obtain⟨g1,o1,rfl,q1⟩:=HM.out.2.2.1 j x hx;have hsd:=HK.out.2.1 _ HM.out.2.2.2 x;obtain⟨l,hl'⟩:∃l,l=(nd σ x).left:=⟨_,rfl⟩
   obtain⟨r,hr'⟩:∃r,r=(nd σ x).right:=⟨_,rfl⟩
   rw[←hl', ←hr'] at hsd;have hso:=QS HG.out.sound x;have hKs:=HM.out.2.1.side hx hso.1 hso.2;have hKw:=HM.out.2.1.ed.want hso.1 (fun h0=>.left (HM.out.2.1.fro x (List.mem_of_getElem? hx)) h0);rw[←hl', ←hr'] at hKs hso;rw[←hl'] at hKw;have hk5l:(k2.want l).todo.length≤65536:=Nat.le_trans hKw.len (Ew HG.out);have HKS:=(hIq hKs (aIq hso (aIq hKw hk5l)))
   have HSX:=Lib.hid hsd;clear hx hsd hl' hr' hso hKs hKw hk5l;go_wp2_with fail;refine HSX.out.mono ?_;rintro e w3 ⟨rfl,a3⟩;have H3:=Lib.hid (HM.out.1.adds a3);have hin:=fun w1 (a:Adds w3 w1) x=>Mq (ao:=some ⟨g1,o1,none⟩) qc2 (HM.out.2.2.1.adds (a3.trans a (fun _=>fEq))) HL2.out.symm (by omega) x
   have HIN:=Lib.hid hin;clear hin a3 q1;go_upto_region 14 with fail;obtain⟨B,hB⟩:∃B,B=decide (l≠0∧l∉k2.todo):=⟨_,rfl⟩
   have HB:=Lib.hid hB;clear hB;go_cut [70] (fun s70 wx=>s70=.bool B∧Adds w3 wx)
   case first =>
    by_cases h0:l=0
    · have b0:(l != 0)=false:=by simpa using h0
      have hb:B=false:=by rw[HB.out];exact decide_eq_false (fun h=>h.1 h0)
      clear h0;go_wp2;go_meet;exact⟨by rw[hb],Ch.refl _ _⟩
    have b0:(l != 0)=true:=by simpa using h0
    have hin2:=HIN.out w3 (Ch.refl _ _) l;by_cases hm:l∈k2.todo
    · rw[decide_eq_true hm] at hin2
      have hb:B=false:=by rw[HB.out];exact decide_eq_false (fun h=>h.2 hm)
      have HI2:=Lib.hid hin2;have HBB:=Lib.hid hb;clear h0 hm hin2 hb;go_wp2_with fail;refine HI2.out.mono ?_;rintro e w4 ⟨rfl,a4⟩;go_wp2;go_meet;exact⟨by rw[HBB.out],a4⟩
    rw[decide_eq_false hm] at hin2;have hb:B=true:=by rw[HB.out];exact decide_eq_true ⟨h0,hm⟩
    have HI2:=Lib.hid hin2;have HBB:=Lib.hid hb;clear h0 hm hin2 hb;go_wp2_with fail;refine HI2.out.mono ?_;rintro e w4 ⟨rfl,a4⟩;go_wp2;go_meet;exact⟨by rw[HBB.out],a4⟩
   obtain⟨rfl,a4⟩:=hcut;have H4:=(hIq (H3.out.adds a4) a4)
   have hwt:=HM.out.2.1.ed.Tq l;have HWT:=Lib.hid hwt;clear a4 hwt;go_upto_if 70 with fail;go_cut [7] (fun s7 wx=>EL w wx s7 (k2.want l).todo)
   case first =>
    cases B with
    | true =>
     have hwt:=HWT.out;rw[if_pos (of_decide_eq_true HB.out.symm)] at hwt;have HW2:=Lib.hid hwt;clear hwt
     go_wp2_with (first
      | fail
      | (at_builtin;refine ML rfl _ _ rfl _ k2.todo rfl l H4.out.1 (by rw[←HL2.out];omega) rfl ?_;intro v' w5 hm5))
     go_meet;rw[HW2.out];exact hm5
    | false =>
     have hwt:=HWT.out;rw[if_neg (of_decide_eq_false HB.out.symm)] at hwt;have HW2:=Lib.hid hwt;clear hwt;go_wp2;go_meet;rw[HW2.out];exact H4.out.1
   obtain⟨⟨q5,qc5,rfl,own5⟩,a5⟩:=hcut;have hI5:=(Az.own own5).1;obtain⟨len5,hlen5⟩:∃len,len=(k2.want l).todo.length:=⟨_,rfl⟩
   have hl56:len5≤65536:=by rw[hlen5];exact HKS.out.2.2.2
   have H5:=Lib.hid (show EL w wc (.slice q5 (k2.want l).todo.length qc5) (k2.want l).todo from⟨⟨q5,qc5,rfl,own5⟩,a5⟩);have hin:=fun w1 (a:Adds wc w1) x=>Mq (ao:=q5) qc5 (hI5.adds a) hlen5.symm (by omega) x
   rw[←hlen5] at H5 ⊢;have HL5:=Lib.hid hlen5;have HIN5:=Lib.hid hin;clear own5 a5 hI5 hlen5 hin;go_upto_region 16 with fail;obtain⟨B2,hB2⟩:∃B,B=decide (r≠0∧r∉(k2.want l).todo):=⟨_,rfl⟩
   have HB2:=Lib.hid hB2;obtain⟨W5,hW5⟩:∃W5,W5=wc:=⟨_,rfl⟩
   subst hW5;clear hB2;go_cut [82] (fun s82 wx=>s82=.bool B2∧Adds W5 wx)
   case first =>
    by_cases h0:r=0
    · have b0:(r != 0)=false:=by simpa using h0
      have hb:B2=false:=by rw[HB2.out];exact decide_eq_false (fun h=>h.1 h0)
      clear h0;go_wp2;go_meet;exact⟨by rw[hb],Ch.refl _ _⟩
    have b0:(r != 0)=true:=by simpa using h0
    have hin2:=HIN5.out W5 (Ch.refl _ _) r;by_cases hm:r∈(k2.want l).todo
    · rw[decide_eq_true hm] at hin2
      have hb:B2=false:=by rw[HB2.out];exact decide_eq_false (fun h=>h.2 hm)
      have HI2:=Lib.hid hin2;have HBB:=Lib.hid hb;clear h0 hm hin2 hb;go_wp2_with fail;refine HI2.out.mono ?_;rintro e w4 ⟨rfl,a4⟩;go_wp2;go_meet;exact⟨by rw[HBB.out],a4⟩
    rw[decide_eq_false hm] at hin2;have hb:B2=true:=by rw[HB2.out];exact decide_eq_true ⟨h0,hm⟩
    have HI2:=Lib.hid hin2;have HBB:=Lib.hid hb;clear h0 hm hin2 hb;go_wp2_with fail;refine HI2.out.mono ?_;rintro e w4 ⟨rfl,a4⟩;go_wp2;go_meet;exact⟨by rw[HBB.out],a4⟩
   obtain⟨rfl,a6⟩:=hcut;have H6:=Lib.hid (H5.out.adds a6);have hwt2:=HKS.out.2.2.1.Tq r;have HWT2:=Lib.hid hwt2;clear a6 hwt2
   have HEND:RowKit.Hid (j+1≤((k2.want l).want r).todo.length):=Lib.hid (by
    obtain⟨l1,e1,_⟩:=Wk.En k2 l;obtain⟨l2,e2,_⟩:=Wk.En (k2.want l) r;rw[e2,e1,List.length_append,List.length_append, ←HL2.out];omega)
   cases B2 with
   | true =>
    have hwt:=HWT2.out;rw[if_pos (of_decide_eq_true HB2.out.symm)] at hwt;have HW2:=Lib.hid hwt;clear hwt
    go_wp2_with (first
     | fail
     | (at_builtin;refine ML rfl _ _ rfl _ (k2.want l).todo rfl r H6.out (by rw[←HL5.out];omega) rfl ?_;intro v' w5 hm5))
    go_roundg g
    case measure=>omega
    exact⟨j+1,(k2.want l).want r,by simp,by omega,HEND.out,by rw[HW2.out];exact hm5,HKS.out.1⟩
   | false =>
    have hwt:=HWT2.out;rw[if_neg (of_decide_eq_false HB2.out.symm)] at hwt;have HW2:=Lib.hid hwt;clear hwt;go_wp2;go_roundg g
    case measure=>omega
    exact⟨j+1,(k2.want l).want r,by simp,by omega,HEND.out,by rw[HW2.out];exact H6.out,HKS.out.1⟩
 have hlt:(i:Int)<(N:Int):=by omega
 have hlt':i<N:=by omega
 obtain⟨g,rfl⟩:∃g,gk=g+1:=⟨gk-1,by omega⟩
 obtain⟨x,hx⟩:∃x,R[i]?=some x:=⟨_,List.getElem?_eq_getElem (by have:=HR.out.2.1;omega)⟩
 obtain⟨g1,o1,rfl,q1⟩:=HR.out.1 i x hx;have q1':=HM.out.1.2.cell q1 id;have hin:=fun w1 (a:Adds wr w1)=>Mq (ao:=q) qc (HM.out.2.2.adds a) HL.out.symm (by omega) x
 have hsn:R.take (i+1)=R.take i ++ [x]:=by rw[List.take_add_one,hx];rfl
 have hK1:Wanting σ (R.take (i+1)) 0 (k.want x):=by rw[hsn];exact HM.out.2.1.mono (HR.out.2.2 x (List.mem_of_getElem? hx))
 have hwt:=HM.out.2.1.ed.Tq x;have HWT:=(hIq hwt hK1)
 have HQ1:RowKit.Hid (∀w1,Adds wr w1→w1.cell? ⟨g1,o1+i,none⟩=some (.int .i64 x)):=Lib.hid (fun w1 a=>a.cell q1' id);have HIN:=Lib.hid hin;clear hx q1 hin hsn hK1 hwt;by_cases h0:x=0
 · have b0:(x != 0)=false:=by simpa using h0
   have hwt:=HWT.out.1;rw[if_neg (fun h=>h.1 h0)] at hwt;have HW2:=Lib.hid hwt;clear hwt h0;go_wp2;go_roundg g
   case measure=>omega
   exact⟨i+1,k.want x,by simp,by omega,by rw[HW2.out];exact HM.out.1,HWT.out.2⟩
 have b0:(x != 0)=true:=by simpa using h0
 have hin2:=HIN.out wr (Ch.refl _ _);by_cases hm:x∈k.todo
 · rw[decide_eq_true hm] at hin2
   have hwt:=HWT.out.1;rw[if_neg (fun h=>h.2 hm)] at hwt;have HW2:=Lib.hid hwt;have HI2:=Lib.hid hin2;clear hwt h0 hm hin2;go_wp2_with fail;refine HI2.out.mono ?_;rintro e w4 ⟨rfl,a4⟩;have H4:=Lib.hid (HM.out.1.adds a4);clear a4;go_wp2;go_roundg g
   case measure=>omega
   exact⟨i+1,k.want x,by simp,by omega,by rw[HW2.out];exact H4.out,HWT.out.2⟩
 rw[decide_eq_false hm] at hin2;have hwt:=HWT.out.1;rw[if_pos ⟨h0,hm⟩] at hwt;have HW2:=Lib.hid hwt;have HI2:=Lib.hid hin2;clear hwt h0 hm hin2;go_wp2_with fail;refine HI2.out.mono ?_;rintro e w4 ⟨rfl,a4⟩;have q2':=HQ1.out _ a4;have H4:=Lib.hid (HM.out.1.adds a4);clear a4 q1'
 go_wp2_with (first
  | fail
  | (at_builtin;refine ML rfl _ _ rfl _ k.todo rfl x H4.out (by rw[←HL.out];omega) rfl ?_;intro v' w5 hm5))
 go_roundg g
 case measure=>omega
 exact⟨i+1,k.want x,by simp,by omega,by rw[HW2.out];exact hm5,HWT.out.2⟩
end
theorem Kv {σ:AD Nd} {L:List Int} {i:Nat} {x h:Int} (hx:L[i]?=some x):((L.take (i+1)).map fun y=>refs (nd σ y) h).sum=((L.take i).map fun y=>refs (nd σ y) h).sum+refs (nd σ x) h:=by
 rw[List.take_add_one,hx,Option.toList_some,List.map_append,List.sum_append];simp
theorem Ov {R:List Int} {i:Nat} {x h:Int} (hx:R[i]?=some x):(R.take (i+1)).count h=(R.take i).count h+(if x=h then 1 else 0):=by
 rw[List.take_add_one,hx,Option.toList_some,List.count_append];by_cases e:x=h
 · subst e;simp
 rw[if_neg e];simp[e]
section
variable {w0 w : World} {b : Nat} {σ : AD Nd} {G : Nat→Prop} {ao lo : Option Addr} {R L : List Int}
theorem OP (h:ROw w0 w b σ G) (GG:Good σ) {ln rn:Nat} (lc rc:Nat) (hL:Az w lo L) (hln:L.length=ln) (hl6:ln≤65536) (hR:Az w ao R) (hrn:R.length=rn) (hr6:rn≤64) (x:Int) :
 Calls Tryz.prog 97 #[.pointer (some ⟨b,0,none⟩),.slice lo ln lc,.slice ao rn rc,.int .i64 x] w fun e w'=>e=.returned (.int .i64 (Dv σ L R x:Nat))∧Adds w w':=by
 have hsd:=fun w1 (a:Adds w w1) x=>(h.adds a).sides GG x
 have HSD:=Lib.hid hsd;have HL:=(hIq hL hln)
 have HR:=(hIq hR hrn)
 clear hsd hL hR hln hrn h GG;go_enter Tryz.func97,Tryz.ntmps97;go_wp2;go_loopg [9,10,11,12] ln (fun g s9 s10 s11 s12 wr=>∃(i m:Nat),s10=.int .i64 i∧s9=.int .i64 m∧i+g=ln∧m≤2*i∧RowKit.Hid (m=((L.take i).map fun y=>refs (nd σ y) x).sum)∧Adds w wr)
 case atStart=>exact⟨0,0,rfl,rfl,by omega,by omega,Lib.hid (by simp),Ch.refl _ _⟩
 obtain⟨i,m,rfl,rfl,hi,hm,hs,hA⟩:=hrel;have HA:=Lib.hid hA;clear hA;by_cases hin:i=ln
 · subst hin
   have hlt:¬(i:Int)<(i:Int):=by omega
   have hs1:RowKit.Hid (m=(L.map fun y=>refs (nd σ y) x).sum):=Lib.hid (by have:=hs.out;rwa [List.take_of_length_le (Nat.le_of_eq HL.out.2)] at this);clear hs hi;go_wp2;go_loopg [9,13] rn (fun g s9 s13 wr=>∃(i m2:Nat),s13=.int .i64 i∧s9=.int .i64 m2∧i+g=rn∧m2≤m+i∧RowKit.Hid (m2=m+(R.take i).count x)∧Adds w wr)
   case atStart=>exact⟨0,m,rfl,rfl,by omega,by omega,Lib.hid (by simp),HA.out⟩
   obtain⟨i2,m2,rfl,rfl,hi2,hm2,hs2,hA⟩:=hrel;have HA2:=Lib.hid hA;clear hA HA;by_cases hin2:i2=rn
   · subst hin2
     have hlt2:¬(i2:Int)<(i2:Int):=by omega
     go_wp2;go_ret
     have hfin:m2=Dv σ L R x:=by
      have h2:=hs2.out;rw[List.take_of_length_le (Nat.le_of_eq HR.out.2),hs1.out] at h2;exact h2
     exact⟨by rw[←hfin];rfl,HA2.out⟩
   have hlt2:(i2:Int)<(rn:Int):=by omega
   have hlt2':i2<rn:=by omega
   obtain⟨g,rfl⟩:∃g,gk=g+1:=⟨gk-1,by omega⟩
   obtain⟨y,hy⟩:∃y,R[i2]?=some y:=⟨_,List.getElem?_eq_getElem (by have:=HR.out.2;omega)⟩
   obtain⟨g1,o1,rfl,q1⟩:=HR.out.1 i2 y hy;have q1':=HA2.out.cell q1 id;have hsn:=Ov (h:=x) hy;have HSN:=Lib.hid hsn;have hw2:IntKind.i64.wrap ((m2:Int)+1)=(m2:Int)+1:=IntWalk.i64_in _ (by omega);clear hy q1 hsn;by_cases e:y=x
   · have HE:=HSN.out
     rw[if_pos e] at HE;have HE:=Lib.hid HE;go_wp2;go_roundg g
     case measure=>omega
     exact⟨i2+1,m2+1,by simp,by simp,by omega,by omega,Lib.hid (by have:=HE.out;have:=hs2.out;omega),HA2.out⟩
   have HE:=HSN.out;rw[if_neg e] at HE;have HE:=Lib.hid HE;go_wp2;go_roundg g
   case measure=>omega
   exact⟨i2+1,m2,by simp,rfl,by omega,by omega,Lib.hid (by have:=HE.out;have:=hs2.out;omega),HA2.out⟩
 have hlt:(i:Int)<(ln:Int):=by omega
 have hlt':i<ln:=by omega
 obtain⟨g,rfl⟩:∃g,gk=g+1:=⟨gk-1,by omega⟩
 obtain⟨y,hy⟩:∃y,L[i]?=some y:=⟨_,List.getElem?_eq_getElem (by have:=HL.out.2;omega)⟩
 obtain⟨g1,o1,rfl,q1⟩:=HL.out.1 i y hy;have q1':=HA.out.cell q1 id;have hsn:=Kv (σ:=σ) (h:=x) hy;have hsd:=HSD.out _ HA.out y;unfold refs at hsn;obtain⟨l,hl⟩:∃l,l=(nd σ y).left:=⟨_,rfl⟩
 obtain⟨r,hr⟩:∃r,r=(nd σ y).right:=⟨_,rfl⟩
 rw[←hl, ←hr] at hsn hsd;have HSN:RowKit.Hid (((L.take (i+1)).map fun y=>refs (nd σ y) x).sum=((L.take i).map fun y=>refs (nd σ y) x).sum+((if l=x then 1 else 0)+(if r=x then 1 else 0))):=Lib.hid hsn;have HSX:=Lib.hid hsd;have hw1:IntKind.i64.wrap ((m:Int)+1)=(m:Int)+1:=IntWalk.i64_in _ (by omega);have hw2:IntKind.i64.wrap ((m:Int)+1+1)=(m:Int)+1+1:=IntWalk.i64_in _ (by omega);clear hy q1 hsn hsd hl hr;by_cases e1:l=x
 · by_cases e2:r=x
   · have HE:=HSN.out
     rw[if_pos e1,if_pos e2] at HE;have HE:=Lib.hid HE;go_wp2_with fail;refine HSX.out.mono ?_;rintro e w2 ⟨rfl,a2⟩;have A2:=Lib.hid (HA.out.trans a2 (fun _=>fEq));clear a2;go_wp2;go_roundg g
     case measure=>omega
     exact⟨i+1,m+1+1,by simp,by simp,by omega,by omega,Lib.hid (by have:=HE.out;have:=hs.out;omega),A2.out⟩
   have HE:=HSN.out;rw[if_pos e1,if_neg e2] at HE;have HE:=Lib.hid HE;go_wp2_with fail;refine HSX.out.mono ?_;rintro e w2 ⟨rfl,a2⟩;have A2:=Lib.hid (HA.out.trans a2 (fun _=>fEq));clear a2;go_wp2;go_roundg g
   case measure=>omega
   exact⟨i+1,m+1,by simp,by simp,by omega,by omega,Lib.hid (by have:=HE.out;have:=hs.out;omega),A2.out⟩
 by_cases e2:r=x
 · have HE:=HSN.out
   rw[if_neg e1,if_pos e2] at HE;have HE:=Lib.hid HE;go_wp2_with fail;refine HSX.out.mono ?_;rintro e w2 ⟨rfl,a2⟩;have A2:=Lib.hid (HA.out.trans a2 (fun _=>fEq));clear a2;go_wp2;go_roundg g
   case measure=>omega
   exact⟨i+1,m+1,by simp,by simp,by omega,by omega,Lib.hid (by have:=HE.out;have:=hs.out;omega),A2.out⟩
 have HE:=HSN.out;rw[if_neg e1,if_neg e2] at HE;have HE:=Lib.hid HE;go_wp2_with fail;refine HSX.out.mono ?_;rintro e w2 ⟨rfl,a2⟩;have A2:=Lib.hid (HA.out.trans a2 (fun _=>fEq));clear a2;go_wp2;go_roundg g
 case measure=>omega
 exact⟨i+1,m,by simp,rfl,by omega,by omega,Lib.hid (by have:=HE.out;have:=hs.out;omega),A2.out⟩
theorem NX (h:ROw w0 w b σ G) (GG:Good σ) (cap:Nat) (hR:Az w ao R) (hl:R.length<4611686018427387904) (hc:chk σ R≠0) :
 Calls Tryz.prog 31 #[.pointer (some ⟨b,0,none⟩),.slice ao R.length cap] w fun e w'=>e=.returned (.tuple #[.int .i64 0,.int .i64 (chk σ R)])∧Adds w w':=by
 have hk:=IK h GG cap hR hl hc;obtain⟨c,hcc⟩:∃c,c=chk σ R:=⟨_,rfl⟩
 rw[←hcc] at hk hc ⊢;obtain⟨n,hn⟩:∃n,n=R.length:=⟨_,rfl⟩
 rw[←hn] at hk ⊢;have HK:=Lib.hid hk;have hcb:(c != 0)=true:=by simpa using hc
 clear hk hcc hn hR h hl hc;go_enter Tryz.func31,Tryz.ntmps31;go_wp2_with fail;refine HK.out.mono ?_;rintro e w1 ⟨rfl,a1⟩;have A1:=Lib.hid a1;clear a1;go_wp2;go_ret2;exact⟨rfl,A1.out⟩
theorem QB (h:ROw w0 w b σ G) (GG:Good σ) (cap:Nat) (hR:Az w ao R) (hl:R.length<4611686018427387904) (hc:chk σ R≠0) :
 Calls Tryz.prog 27 #[.pointer (some ⟨b,0,none⟩),.slice ao R.length cap] w fun e w'=>e=.returned (.tuple #[.slice none 0 0,.int .i64 (chk σ R)])∧Adds w w':=by
 have hk:=IK h GG cap hR hl hc;obtain⟨c,hcc⟩:∃c,c=chk σ R:=⟨_,rfl⟩
 rw[←hcc] at hk hc ⊢;obtain⟨n,hn⟩:∃n,n=R.length:=⟨_,rfl⟩
 rw[←hn] at hk ⊢;have HK:=Lib.hid hk;have hcb:(c != 0)=true:=by simpa using hc
 clear hk hcc hn hR h hl hc;go_enter Tryz.func27,Tryz.ntmps27;go_wp2_with fail;refine HK.out.mono ?_;rintro e w1 ⟨rfl,a1⟩;have A1:=Lib.hid a1;clear a1;go_wp2;go_ret2;exact⟨rfl,A1.out⟩
def Ys (S:List Int) (l:List Nat):List Int:=(l.filter fun n:Nat=>decide ((n:Int)∉S)).map fun n:Nat=>(n:Int)
theorem MI (h:ROw w0 w b σ G) (GG:Good σ) (cap:Nat) (hR:Az w ao R) (hc:chk σ R=0) :
 Calls Tryz.prog 31 #[.pointer (some ⟨b,0,none⟩),.slice ao R.length cap] w fun e w'=>∃k,e=.returned (.tuple #[.int .i64 ((k.todo.filter fun x=>decide (1<k.cnt x)).length:Nat),.int .i64 0])∧Wanting σ R k.todo.length k∧Adds w w':=by
 have hk:=He h GG cap hR hc;obtain⟨hl64,_⟩:=FO hc;obtain⟨n,hn⟩:∃n,n=R.length:=⟨_,rfl⟩
 rw[←hn] at hk hl64 ⊢;have hhs:(Ac σ).length≤65536:=Ew GG;have HK:=(hIq hk (aIq hhs (aIq h (aIq GG (aIq hR hn)))))
 clear hk hhs hR hn h GG hc;go_enter Tryz.func31,Tryz.ntmps31;go_wp2_with fail;refine HK.out.1.mono ?_;rintro e w1 ⟨v,k,rfl,hW,hM⟩;obtain⟨⟨q,qc,rfl,own⟩,hA⟩:=hM;have hI:=(Az.own own).1;have hrl:=Hm k.todo (Ac σ);have hss:=Oj hW;obtain⟨S,hS⟩:∃S,S=Bx k.todo (Ac σ):=⟨_,rfl⟩
 rw[←hS] at hI hrl hss ⊢;obtain⟨sl,hsl⟩:∃sl,sl=S.length:=⟨_,rfl⟩
 have hsl6:sl≤65536:=by have:=HK.out.2.1;omega
 rw[←hsl] at ⊢;have hwt:=fun w2 (a:Adds w1 w2) x=>OP (HK.out.2.2.1.adds (hA.trans a (fun _=>fEq))) HK.out.2.2.2.1 qc cap (hI.adds a) hsl.symm hsl6 (HK.out.2.2.2.2.1.adds (hA.trans a (fun _=>fEq))) HK.out.2.2.2.2.2.symm hl64 x
 have H1:=(hIq hA (aIq hI (aIq hsl (aIq hW (aIq hwt hss)))))
 clear own hI hA hrl hS hsl hW hwt hss;go_wp2;go_loopg [8,9] sl (fun g s8 s9 wr=>∃(i m:Nat),s9=.int .i64 i∧s8=.int .i64 m∧i+g=sl∧m≤i∧RowKit.Hid (m=((S.take i).filter fun x=>decide (1<Dv σ S R x)).length)∧Adds w1 wr)
 case atStart=>exact⟨0,0,rfl,rfl,by omega,by omega,Lib.hid (by simp),Ch.refl _ _⟩
 obtain⟨i,m,rfl,rfl,hi,hm,hs,hA⟩:=hrel;have HA:=Lib.hid hA;clear hA;by_cases hin:i=sl
 · subst hin
   have hlt:¬(i:Int)<(i:Int):=by omega
   clear hi;go_wp2;go_ret2
   have hfin:m=(k.todo.filter fun x=>decide (1<k.cnt x)).length:=by
    rw[H1.out.2.2.2.2.2,hs.out,List.take_of_length_le (Nat.le_of_eq H1.out.2.2.1.symm)]
   exact⟨k,by rw[←hfin];rfl,H1.out.2.2.2.1,H1.out.1.trans HA.out (fun _=>fEq)⟩
 have hlt:(i:Int)<(sl:Int):=by omega
 have hlt':i<sl:=by omega
 obtain⟨g,rfl⟩:∃g,gk=g+1:=⟨gk-1,by omega⟩
 obtain⟨x,hx⟩:∃x,S[i]?=some x:=⟨_,List.getElem?_eq_getElem (by have:=H1.out.2.2.1;omega)⟩
 obtain⟨g1,o1,rfl,q1⟩:=H1.out.2.1 i x hx;have q1':=HA.out.cell q1 id;have hwt:=H1.out.2.2.2.2.1 wr HA.out x;obtain⟨f,hf⟩:∃f,f=Dv σ S R x:=⟨_,rfl⟩
 rw[←hf] at hwt;have HWT:=Lib.hid hwt;have HF:=(hIq hf hx)
 have hw2:IntKind.i64.wrap ((m:Int)+1)=(m:Int)+1:=IntWalk.i64_in _ (by omega);clear hx q1 hwt hf
 have hsn:(S.take (i+1)).filter (fun x=>decide (1<Dv σ S R x))=(S.take i).filter (fun x=>decide (1<Dv σ S R x))++(if 1<f then [x] else []):=by
  rw[List.take_add_one,HF.out.2,Option.toList_some,List.filter_append,HF.out.1]
  congr 1
  by_cases e:1<Dv σ S R x<;>simp[e]
 have HSN:=Lib.hid hsn;clear hsn;by_cases e:1<f
 · have e1:(1:Int)<(f:Int):=by omega
   have HE:=HSN.out;rw[if_pos e] at HE;have HE:=Lib.hid HE;go_wp2_with fail;refine HWT.out.mono ?_;rintro e w2 ⟨rfl,a2⟩;have A2:=Lib.hid (HA.out.trans a2 (fun _=>fEq));clear a2;go_wp2;go_roundg g
   case measure=>omega
   exact⟨i+1,m+1,by simp,by simp,by omega,by omega,Lib.hid (by rw[HE.out,hs.out,List.length_append];rfl),A2.out⟩
 have e1:¬(1:Int)<(f:Int):=by omega
 have HE:=HSN.out;rw[if_neg e,List.append_nil] at HE;have HE:=Lib.hid HE;go_wp2_with fail;refine HWT.out.mono ?_;rintro e w2 ⟨rfl,a2⟩;have A2:=Lib.hid (HA.out.trans a2 (fun _=>fEq));clear a2;go_wp2;go_roundg g
 case measure=>omega
 exact⟨i+1,m,by simp,rfl,by omega,by omega,Lib.hid (by rw[HE.out,hs.out]),A2.out⟩
end
end Go.Proofs.YtooijgcildbnlaaGreat.Store

/- Laws of the layers below. -/
import Derived.Test.YtooijgcildbnlaaGreatQh33
import Derived.Test.YtooijgcildbnlaaGreatQh35
set_option maxHeartbeats 3200000
set_option maxRecDepth 100000
set_option linter.unusedVariables false
namespace Go.Proofs.YtooijgcildbnlaaGreat.Law15
open Go.RowKit Go.Sort Go.Proofs.YtooijgcildbnlaaGreat.ShaW Go.Proofs.YtooijgcildbnlaaGreat.Path Go.Proofs.YtooijgcildbnlaaGreat.Store Go.Proofs.YtooijgcildbnlaaGreat.BW Go.Proofs.YtooijgcildbnlaaGreat.Law14
section
variable {w0 w w' : World} {d v s room tn : Nat} {G : Nat→Prop} {σ σ' : AA Nd} {root r : Int} {L L' : AO} {M M' : Nmd} {x key : List UInt8} {a : CP}
def DU (a:CP):Nat:=if a.kind≤1 then 258 else if a.kind=2 then 258*a.l.length else 0
theorem DStep.pre {w1:World} {n m:Nat} (h:DStep w0 w1 w' d v s G room σ σ' r L' M' tn n) (ha:Adds w w1) (hn:n≤m):DStep w0 w w' d v s G room σ σ' r L' M' tn m:=⟨h.dct,(Adds.but ha).then h.but,by have:=h.live;omega⟩
structure Kept (M M':Nmd) (x:List UInt8):Prop where
 stay:∀p∈M,p.1≠x→p∈M'
 only:∀p∈M',p∈M∨p.1=x
 few:M.length≤16→M'.length≤16
 fit:(∀p∈M,CL p.1=true)→∀p∈M',CL p.1=true
theorem Kept.refl (M:Nmd) (x:List UInt8):Kept M M x:=⟨fun _ h _=>h,fun _ h=>.inl h,fun h=>h,fun h=>h⟩
theorem Kept.cut (M:Nmd) (x:List UInt8):Kept M (ID M x) x:=⟨fun p hp hx=>List.mem_filter.2 ⟨hp,by simpa using hx⟩,fun p hp=>.inl (List.mem_filter.1 hp).1,fun h=>Nat.le_trans (List.length_filter_le _ _) h,fun h p hp=>h p (List.mem_filter.1 hp).1⟩
def Px (w0 w:World) (d v s:Nat) (G:Nat→Prop) (room:Nat) (σ:AA Nd) (M:Nmd) (tn:Nat) (a:CP) (e:Ending) (w':World):Prop :=
 e=.returned (.tuple #[])∧∃σ' r L' M',DStep w0 w w' d v s G room σ σ' r L' M' tn (DU a)∧Kept M M' a.nm
theorem Sr (h:Dct w0 w d v s G room σ root L M tn) (ha:a.Good w0) (hn:a.l.length*56≤140737488351232) (htn:tn≤400000000):Calls Tryz.prog 34 #[.pointer (some ⟨d,0,none⟩),.agg a.cells] w (Px w0 w d v s G room σ M tn a):=by
 have haw:a.Good w:=ha.Ae h.world (fun _=>fEq);obtain⟨C,hC⟩:∃C,C=a.cells:=⟨_,rfl⟩
 obtain⟨S,hS⟩:∃S,S=BQ a.nm:=⟨_,rfl⟩
 obtain⟨kd,hkd⟩:∃kd,kd=a.kind:=⟨_,rfl⟩
 obtain⟨kv,hkv⟩:∃kv,kv=a.kv:=⟨_,rfl⟩
 obtain⟨vv,hvv⟩:∃vv,vv=a.vv:=⟨_,rfl⟩
 have q0:C[0]?=some (.int .u8 kd):=by rw[hC,hkd];rfl
 have q1:C[1]?=some (.string S):=by rw[hC,hS];rfl
 have q2:C[2]?=some kv:=by rw[hC,hkv];rfl
 have q3:C[3]?=some vv:=by rw[hC,hvv];rfl
 have q4:C[4]?=some (.slice a.ao a.l.length a.cap):=by rw[hC];rfl
 obtain⟨len,hlen⟩:∃len,len=a.l.length:=⟨_,rfl⟩
 rw[←hlen] at q4;have HQ:=(hIq q0 (aIq q1 (aIq q2 (aIq q3 q4))))
 have HH:=(hIq h (aIq ha (aIq haw (aIq hn htn))))
 have HE:=(hIq hS (aIq hkd (aIq hkv (aIq hvv hlen))))
 rw[←hC];clear q0 q1 q2 q3 q4 h ha haw hn htn hC hS hkd hkv hvv hlen;go_enter Tryz.func34,Tryz.ntmps34;go_upto_region 1 with fail;refine Bs (fun w1 hw1=>?_);have a1:Adds w w1:=by rw[hw1];exact(Ch.refl _ _).alloc _
 have r1:w1.heap[w.heap.size]?=some (.cells C 80 (0,0)):=by rw[hw1];exact heap_alloc_new _ _
 have b0:=AE r1 HQ.out.1;have b1:=AE r1 HQ.out.2.1;have b2:=AE r1 HQ.out.2.2.1;have b3:=AE r1 HQ.out.2.2.2.1;have b4:=AE r1 HQ.out.2.2.2.2;have A1:=Lib.hid a1;clear a1 r1 hw1;by_cases k0:kd=0
 · have hc:=Nq (HH.out.1.adds A1.out) (kv:=kv) (vv:=vv) (key:=a.kb) (bs:=a.vb) (by rw[HE.out.2.2.1];exact HH.out.2.2.1.key.Ae A1.out (fun _ _ h=>h)) (by rw[HE.out.2.2.2.1];exact HH.out.2.2.1.val.Ae A1.out (fun _ _ h=>h)) (fun h0 k hk=>Nat.lt_of_lt_of_le (HH.out.2.2.1.vblk h0 k (by rw[←HE.out.2.2.2.1];exact hk)) A1.out.size) (by have:=HH.out.2.2.2.2;omega)
   have HC:=(hIq hc k0)
   have hdm:DU a=258:=by unfold DU;rw[←HE.out.2.1,k0];rfl
   have HDM:=Lib.hid hdm;subst k0;clear hc hdm;go_wp2_with fail;refine HC.out.1.mono ?_;rintro e w2 ⟨rfl,σ',r,hs⟩;have HS:=Lib.hid hs;clear hs b0 b1 b2 b3 b4;go_wp2;go_end0;exact⟨rfl,σ',r,_,M,HS.out.pre A1.out (by have:=HDM.out;have:=HE.out.2.2.2.2;omega),Kept.refl _ _⟩
 ·
  by_cases k1:kd=1
  · have hc:=Ja (HH.out.1.adds A1.out) (kv:=kv) (key:=a.kb) (by rw[HE.out.2.2.1];exact HH.out.2.2.1.key.Ae A1.out (fun _ _ h=>h)) (by have:=HH.out.2.2.2.2;omega)
    have HC:=(hIq hc k1)
    have hdm:DU a=258:=by unfold DU;rw[←HE.out.2.1,k1];rfl
    have HDM:=Lib.hid hdm;subst k1;clear hc hdm;go_wp2_with fail;refine HC.out.1.mono ?_;rintro e w2 ⟨rfl,σ',r,hs⟩;have HS:=Lib.hid hs;clear hs b0 b1 b2 b3 b4;go_wp2;go_end0;exact⟨rfl,σ',r,_,M,HS.out.pre A1.out (by have:=HDM.out;have:=HE.out.2.2.2.2;omega),Kept.refl _ _⟩
  ·
   by_cases k2:kd=2
   · have hc:=Oc (HH.out.1.adds A1.out) a.cap HH.out.2.1.raws HH.out.2.2.2.1 (by have:=HH.out.2.2.2.2;omega)
     rw[←HE.out.2.2.2.2] at hc;have HC:=(hIq hc k2)
     have hdm:DU a=258*a.l.length:=by unfold DU;rw[←HE.out.2.1,k2];rfl
     have HDM:=Lib.hid hdm;subst k2;clear hc hdm;go_wp2_with fail;refine HC.out.1.mono ?_;rintro e w2 ⟨er,σ',r,L',rfl,hs,_⟩;have HS:=Lib.hid hs;clear hs b0 b1 b2 b3 b4;go_wp2;go_end0;exact⟨rfl,σ',r,L',M,HS.out.pre A1.out (by have:=HDM.out;have:=HE.out.2.2.2.2;omega),Kept.refl _ _⟩
   ·
    by_cases k7:kd=7
    · have hc:=Eu (HH.out.1.adds A1.out) HH.out.2.1.nm HH.out.2.2.2.2
      rw[←HE.out.1] at hc;have HC:=(hIq hc k7)
      have hdm:DU a=0:=by unfold DU;rw[←HE.out.2.1,k7];rfl
      have HDM:=Lib.hid hdm;subst k7;clear hc hdm;go_wp2_with fail;refine HC.out.1.mono ?_;rintro e w2 ⟨σ',M',er,rfl,hs,hc⟩;have HS:=(hIq hs hc)
      clear hs hc b0 b1 b2 b3 b4;go_wp2;go_end0
      exact⟨rfl,σ',_,_,M',HS.out.1.pre A1.out (by have:=HDM.out;have:=HE.out.2.2.2.2;omega),by
       rcases HS.out.2 with⟨_,_,e⟩|⟨_,_,_,e⟩|⟨h0,hno,_,e⟩
       · rw[e];exact Kept.refl _ _
       · rw[e];exact Kept.refl _ _
       rw[e];unfold Cs at h0;by_cases hn:CL a.nm=false
       · rw[if_pos hn] at h0;cases h0
       rw[if_neg hn] at h0;refine⟨fun p hp _=>List.mem_cons_of_mem _ hp,fun p hp=>(List.mem_cons.1 hp).elim (fun e=>.inr (by rw[e])) .inl,fun _=>?_,fun hf p hp=>(List.mem_cons.1 hp).elim (fun e=>by rw[e];simpa using hn) (hf p)⟩;by_cases hm:16≤M.length
       · rw[if_pos hm] at h0;cases h0
       simp only[List.length_cons];omega⟩
    ·
     by_cases k8:kd=8
     · have hc:=Hc (HH.out.1.adds A1.out) HH.out.2.1.nm (by have:=HH.out.2.2.2.2;omega)
       rw[←HE.out.1] at hc;have HC:=(hIq hc k8)
       have hdm:DU a=0:=by unfold DU;rw[←HE.out.2.1,k8];rfl
       have HDM:=Lib.hid hdm;subst k8;clear hc hdm;go_wp2_with fail;refine HC.out.1.mono ?_;rintro e w2 ⟨σ',r',L',er,rfl,hs,_⟩;have HS:=Lib.hid hs;clear hs b0 b1 b2 b3 b4;go_wp2;go_end0;exact⟨rfl,σ',r',L',M,HS.out.pre A1.out (by have:=HDM.out;have:=HE.out.2.2.2.2;omega),Kept.refl _ _⟩
     ·
      by_cases k9:kd=9
      · have hc:=KO (HH.out.1.adds A1.out) HH.out.2.1.nm
        rw[←HE.out.1] at hc;have HC:=(hIq hc k9)
        have hdm:DU a=0:=by unfold DU;rw[←HE.out.2.1,k9];rfl
        have HDM:=Lib.hid hdm;subst k9;clear hc hdm;go_wp2_with fail;refine HC.out.1.mono ?_;rintro e w2 ⟨σ',M',er,rfl,hs,hc⟩;have HS:=(hIq hs hc)
        clear hs hc b0 b1 b2 b3 b4;go_wp2;go_end0
        exact⟨rfl,σ',_,_,M',HS.out.1.pre A1.out (by have:=HDM.out;have:=HE.out.2.2.2.2;omega),by
         rcases HS.out.2 with⟨_,_,e⟩|⟨_,_,e⟩
         · rw[e];exact Kept.refl _ _
         rw[e];exact Kept.cut _ _⟩
      ·
       clear b1 b2 b3 b4;go_wp2;go_end0;exact⟨rfl,σ,root,L,M,HH.out.1.stay A1.out _,Kept.refl _ _⟩
end
def S7 (w:World) (key:List UInt8) (e:Ending) (w':World):Prop:=∃g cap,e=.returned (.slice (some ⟨g,0,none⟩) 32 cap)∧Bytes w' (.slice (some ⟨g,0,none⟩) 32 cap) key∧w.heap.size≤g∧g<w'.heap.size∧Adds w w'
theorem PB (w:World) {key:List UInt8} (hk:key.length=32):Calls Tryz.prog 36 #[.agg (AJ key)] w (S7 w key):=by
 obtain⟨K,hK⟩:∃K,K=AJ key:=⟨_,rfl⟩
 have hks:K.size=32:=by rw[hK,AK,hk]
 have hk1:∀v∈K.toList,v.oneCell'=true:=by rw[hK];exact Ao _
 have HK:=(hIq hks (aIq hk1 hK))
 obtain⟨i0,hi,hz0,hz1,hz2⟩:=Q7;have HI:=(hIq hi (aIq hz0 (aIq hz1 hz2)))
 rw[←hK];clear hks hk1 hK hi hz0 hz1 hz2;go_enter Tryz.func36,Tryz.ntmps36;go_upto_region 1 with fail;refine Bs (fun w1 hw1=>?_);have a1:Adds w w1:=by rw[hw1];exact(Ch.refl _ _).alloc _
 have r1:w1.heap[w.heap.size]?=some (.cells K 24 (0,0)):=by rw[hw1];exact heap_alloc_new _ _
 have A1:=(hIq a1 r1)
 clear a1 hw1;clear r1
 go_wp2_with (first
  | fail
  | (at_builtin;refine Aw rfl _ _ 73 rfl 5 i0 (.int .u8 0) 1 1 Tryz.underlying73 HI.out.1 HI.out.2.1 HI.out.2.2.1 HI.out.2.2.2 rfl (by decide) (.slice (some ⟨w1.heap.size,0,none⟩) 0 0) 0 [] rfl (⟨rfl,.inr ⟨w1.heap.size,0, #[],rfl,Nat.zero_le _,heap_alloc_new _ _,Nat.le_refl _,Nat.zero_le _,rfl,rfl⟩⟩) ⟨w.heap.size,0,none⟩ 32 32 K.toList rfl (by rw[Array.length_toList,HK.out.1]) (Cl (AH A1.out.2 _)) HK.out.2.1 (by unfold maxLen;omega) (by omega) ?_;intro v' w4 own' grow' loc'))
 rw[Nat.zero_add,List.nil_append] at own';obtain⟨gg,cp,cur,rfl,hg,q1,q2,q3,q4⟩:=D3 own' (by decide);have hA4:Adds w w4:=(A1.out.1.alloc _).grown grow' (fun j hj=>by cases hj;exact .inr A1.out.1.size)
 have hge:w.heap.size≤gg:=by
  have h1:=A1.out.1.size;rcases loc' with e|e
  · injection e with e
    have e:gg=w1.heap.size:=e;omega
  have:=e gg rfl;simp at this;omega
 have H4:=(hIq hg (aIq q1 (aIq q2 (aIq q4 (aIq hA4 hge)))))
 clear hg q1 q2 q3 q4 hA4 hge own' grow' loc';go_wp2;go_ret;refine⟨gg,cp,rfl,⟨_,cp,by rw[hk],by rw[hk];exact H4.out.2.1,H4.out.2.2.1,fun j y hy=>⟨gg,0,rfl,?_⟩⟩,H4.out.2.2.2.2.2,Ai H4.out.1,H4.out.2.2.2.2.1⟩;rw[Nat.zero_add];exact AE H4.out.1 (FJ H4.out.2.2.2.1 (by rw[HK.out.2.2,show(AJ key).toList=key.map bv by simp[AJ],List.getElem?_map,hy];rfl))
theorem KC:(Tryz.prog.info? 80).map (·.size)=some 6:=by kernel_rfl
end Go.Proofs.YtooijgcildbnlaaGreat.Law15

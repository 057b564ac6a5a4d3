/- Laws of the layers below. -/
import Derived.Test.YtngbdbpofifimaaGreatQm3
import Derived.Deep.LoopGhost
import Derived.Maps.AppendAt
set_option maxHeartbeats 3200000
set_option maxRecDepth 100000
set_option linter.unusedVariables false
namespace Go.Proofs.YtngbdbpofifimaaGreat.SlabN
open Go.RowKit
theorem DZ:∃i,Tryz.prog.info? 3=some i∧i.zero=some (.int .i64 0)∧i.size=1∧i.bytes=8:=by
 obtain⟨i,h1,h2,h3,h4⟩:=info_parts (P:=Tryz.prog) (e:=3) (z:=.int .i64 0) (size:=1) (bytes:=8) (by kernel_rfl);exact⟨i,h1,h2,h3,h4⟩
theorem EO:Dg.size=104:=by
 have:=congrArg List.length G7;simp only[List.length_append,Array.length_toList,List.length_cons,List.length_nil,okV.size _ BP] at this;exact this
theorem Nn:∀c∈Dg.toList,c.oneCell'=true:=fun c hc=>by
 rw[G7] at hc;rcases List.mem_append.1 hc with hc|hc
 · exact okV.one _ BP c hc
 simp only[List.mem_singleton] at hc;subst hc;rfl
theorem Ja {w:World} {a:Nat} {F:Nat→Prop} {σ:AG} (h:At OkV w a F σ) (n:Int) :
 Calls Tryz.prog 91 #[.pointer (some ⟨a,0,none⟩),.int .i64 n] w fun e w'=>e=.returned (.tuple #[.bool (σ.drop zero n).1,.int .i64 (σ.drop zero n).2.1])∧BF w w' a F (σ.drop zero n).2.2:=by
 have hr:=h.1.room;have hl:=h.1.len;cases hs:σ.get? n with
 | none =>
  have hcnt:σ.drop zero n=(false,7,σ):=by simp[AG.drop,hs]
  rw[hcnt];have HS:=Lib.hid hs;clear hs hcnt;have h':=h;obtain⟨h0,vs,vf,h1,_⟩:=h';obtain⟨c0,c1,c2,c3,fz,hlt⟩:=Fw h1;go_enter Tryz.func91,Tryz.ntmps91;go_wp2_with (first|(go_at_call 176;refine(An _ _ (σ.room:Int) (by go_simp) (by omega)).mono ?_;rintro e w1 ⟨rfl,rfl⟩)|(go_at_call 177;refine(Py okV h HS.out).mono ?_;rintro e w1 ⟨rfl,rfl⟩));go_ret2;exact⟨rfl,F,h,Ch.refl _ _,fun k hk=>.inl hk⟩
 | some s =>
  obtain⟨m,rfl,hs',h0,_⟩:=AG.Ac hs;have hle:=h.1.counts s (List.mem_of_getElem? hs');obtain⟨g,cap,cur,vf,e1,e2,b1,b2,b3,b4,hm,o1,f1,f2,f3,f4,f5,hc,ht⟩:=FB okV h hs';obtain⟨d0,d1,d2,d3,fz,hlt⟩:=Fw e1;have hcc:=AH e2 hc;have hlg:=Ad e2;have hfg:=Ai e2 (m*104+103);have hwf:=h.1;have hfree:=hwf.VH hs' h0;by_cases hmax:s.2=1
  · have hcnt:σ.drop zero (m+1)=(true,0, { σ with slots:=σ.slots.set m (zero,0),free:=σ.free ++ [m+1] }):=by
     simp only[AG.drop,hs,if_pos hmax,AG.setAt];rw[show((m:Int)+1-1).toNat=m by omega,show((m:Int)+1).toNat=m+1 by omega]
    rw[hcnt];have hszs:∀s∈σ.slots,s.1.cells.size=103:=fun x hx=>okV.size _ (hwf.things x hx)
    have HW:Hid (AG.WF OkV { σ with slots:=σ.slots.set m (zero,0),free:=σ.free ++ [m+1] }):=hwf.Wq hs' h0 BP
    have hA':(cur.setIfInBounds (m*104+103) (.int .i64 ((s.2:Nat)-1:Int))).toList.take (σ.slots.length*104)=AG.flat (σ.slots.set m (s.1,0)):=by
     rw[Array.toList_setIfInBounds,List.take_set,b4,show((s.2:Nat)-1:Int)=((0:Nat):Int) by omega];exact AG.Ei hszs hs' 0
    have hkk:m*104+104≤σ.slots.length*104:=by have:(m+1)*104≤σ.slots.length*104:=Nat.mul_le_mul_right _ hm;omega
    have hkc:σ.slots.length*104≤cur.size:=by rw[b3];exact Nat.mul_le_mul_right _ b1
    obtain⟨new,HN⟩:∃new,Hid ((splice (cur.setIfInBounds (m*104+103) (.int .i64 ((s.2:Nat)-1:Int))).toList (m*104) Dg.toList).toArray=new):=⟨_,rfl⟩
    have HT:Hid (new.toList.take (σ.slots.length*104)=AG.flat (σ.slots.set m (zero,0))):=by
     show _=_
     rw[←HN.out];have h1:=D8 hA' (by simpa using hkc) (off:=m*104) (v:=Dg.toList) (by simp[EO];omega)
     have h2:=AG.JC (sz:=103) (l:=σ.slots.set m (s.1,0)) (i:=m) (s:=(zero,0)) (fun x hx=>by
      rcases List.mem_or_eq_of_mem_set hx with hx|rfl
      · exact hszs x hx
      exact hszs s (List.mem_of_getElem? hs')) (by simpa using hm) RO
     rw[←G7,List.set_set] at h2;exact h1.trans h2
    have HS:Hid (new.size=cur.size):=by
     show _=_
     rw[←HN.out];have:=Ce (cur.setIfInBounds (m*104+103) (.int .i64 ((s.2:Nat)-1:Int))).toList (m*104) Dg.toList (by simp[EO];omega);simpa using this
    have HFit:Hid (m*104+Dg.size≤(cur.setIfInBounds (m*104+103) (.int .i64 ((s.2:Nat)-1:Int))).size):=by show _≤_;simp[EO];omega
    have hb:(0:Int)<σ.used:=by simp[AG.used];omega
    have hb0:((s.2:Nat):Int)-1≤0:=by omega
    have E1:=Lib.hid e1;have E2:=Lib.hid e2;have hag:a≠g:=Ne.symm f3;have hfa:∀k,vf.ownBlock=some k→¬(k=g):=fun k hk e=>(f4 k hk).2.2 e.symm
    have hub:σ.used≤65536:=by simp[AG.used];omega
    have hml:(m:Int)≤65535:=by omega
    have hs2:1≤s.2:=by omega
    obtain⟨i0,hi0,hz0,hz1,hz2⟩:=DZ;have HI:=Lib.hid hi0;have HZ0:=Lib.hid hz0;have HZ1:=Lib.hid hz1;have HZ2:=Lib.hid hz2;have HB3:=Lib.hid b3;have HFA:=Lib.hid hfa;have F4:=Lib.hid f4;have F5:=Lib.hid f5;have O1:=Lib.hid o1;clear hs hs' hcnt hmax ht b4 e1 e2 hc hwf h hA' hszs b3 hi0 hz0 hz1 hz2 h0 hfa f4 f5 o1 hkk hkc;go_enter Tryz.func91,Tryz.ntmps91
    go_wp2_with (first
     | (go_at_call 176;refine(An _ _ (σ.room:Int) (by go_simp) (by omega)).mono ?_;rintro e w1 ⟨rfl,rfl⟩)|(go_at_call 177;refine(Gi _ _ g _ cap m s.2 σ.room (by go_simp) (by go_simp) (by omega) hm (by omega) (by go_simp) (by omega)).mono ?_;rintro e w1 ⟨rfl,rfl⟩)|(with_reducible show wpList _ _ _ (⟨_,.build 272 _,_,_,_,_⟩::_) _ _;refine Ax rfl 272 rfl Dg OU ?_)|(with_reducible show wpList _ _ _ (⟨_,.store 272 _ _,_,_,_,_⟩::_) _ _;refine AI rfl 272 _ _ rfl g (m*104) Dg rfl rfl (AV E2.out _ _) (by rw[Lm,EO]) HFit.out Nn new HN.out ?_)
     | (at_builtin;refine BI rfl _ _ 61 rfl 3 i0 (.int .i64 0) 1 8 Tryz.underlying61 HI.out HZ0.out HZ1.out HZ2.out rfl (by decide) vf σ.free.length _ rfl ((((Ch.refl (fun k=>k=g) w).setCell (p:=⟨g,m*104+103,none⟩) (.inl rfl) _).setRow (.inl rfl) _).alloc _ |>.owns O1.out HFA.out) ⟨w.heap.size,0,none⟩ 1 1 [.int .i64 (m+1)] rfl rfl (GI (cs:=#[.int .i64 (m+1)]) (t:=3) (fr:=(0,0)) (BG _ _ _ (by simp))) (by simp[Value.oneCell']) (by unfold maxLen;omega) (by omega) ?_;intro v0 w1 own' grow' ob';obtain⟨ao',cap',rfl⟩:=Am own';have CH:Ch (fun k=>k=g∨vf.ownBlock=some k) w w1:=((((Ch.refl _ w).setCell (p:=⟨g,m*104+103,none⟩) (.inl (.inl rfl)) _).setRow (.inl (.inl rfl)) _).alloc _).grown grow' (fun k hk=>.inl (.inr hk));have hA1:=CH.row E1.out (fun h=>h.elim hag (fun h=>(F4.out a h).2.1 rfl));have hG1:=(grow'.block g (by simp;omega) (fun e=>(F4.out g e.symm).2.2 rfl)).trans (AQ (AK (AV E2.out _ _) _) _);have hsz1:w.heap.size+1≤w1.heap.size:=(by have:=grow'.size;simpa using this);have OB:Hid ((Value.slice ao' (σ.free.length+1) cap').ownBlock=vf.ownBlock∨∀k,(Value.slice ao' (σ.free.length+1) cap').ownBlock=some k→w.heap.size≤k):=ob'.imp id (fun h k hk=>(by have:=h k hk;simp at this;omega));obtain⟨c0,c1,c2,c3,cfz,clt⟩:=Fw hA1;have A1:=Lib.hid hA1;have G1:=Lib.hid hG1;have OW:=Lib.hid own';have CC:=Lib.hid CH;clear hA1 hG1 own' CH grow' ob' d0 d1 d2 d3 fz hlt hcc hlg hfg))
    go_ret2;have hA2:=AV (AV A1.out 1 (Value.slice ao' (σ.free.length+1) cap')) 3 (.int .i64 ((σ.used:Int)-1))
    have hne:∀k,(Value.slice ao' (σ.free.length+1) cap').ownBlock=some k→k≠a∧k≠g∧(F k∨w.heap.size≤k):=fun k hk=>by
     rcases OB.out with e|e
     · rw[e] at hk
       exact⟨(F4.out k hk).2.1,fun e=>(F4.out k hk).2.2 e.symm,.inl (F4.out k hk).1⟩
     have:=e k hk;have h1:=F5.out a f1;have h2:=F5.out g f2;exact⟨by omega,by omega,.inr this⟩
    refine⟨rfl,fun k=>F k∨(w.heap.size≤k∧k<w1.heap.size),EH.make HW.out hA2 rfl ?_ ?_ ?_ (.inl f1) ?_ ?_ ?_,?_,fun k hk=>hk.imp id (fun h=>h.1)⟩
    · simp[AG.used];simp[AG.used] at hb;omega
    · have:=Ak (p:=⟨a,3,none⟩) (Ak (p:=⟨a,1,none⟩) G1.out f3 (Value.slice ao' (σ.free.length+1) cap')) f3 (.int .i64 ((σ.used:Int)-1))
      simp only[List.length_set];exact B4 this b1 b2 (by rw[HS.out,HB3.out]) HT.out
    · have:=((Ch.refl (fun k=>k=a) w1).setCell (p:=⟨a,1,none⟩) (.inl rfl) (Value.slice ao' (σ.free.length+1) cap') |>.setCell (p:=⟨a,3,none⟩) (.inl rfl) (.int .i64 ((σ.used:Int)-1))).owns OW.out (fun k hk e=>(hne k hk).1 e)
      simpa using this
    · intro k hk
      simp only[Value.ownBlock,Option.some.injEq] at hk;subst hk;exact⟨.inl f2,f3⟩
    · intro k hk
      obtain⟨h1,h2,h3⟩:=hne k hk;refine⟨h3.imp id (fun h=>⟨h,(OW.out.lt k hk).2⟩),h1,?_⟩;simp only[Value.ownBlock,Option.some.injEq,ne_eq];exact fun e=>h2 e.symm
    · intro k hk
      simp only[World.size_setCell];rcases hk with hk|hk
      · have:=F5.out k hk
        omega
      exact hk.2
    refine(((CC.out).mono ?_).setCell (p:=⟨a,1,none⟩) (.inl f1) _).setCell (p:=⟨a,3,none⟩) (.inl f1) _;rintro k hk (rfl|h)
    · exact f2
    exact(F4.out k h).1
  have hcnt:σ.drop zero (m+1)=(false,0, { σ with slots:=σ.slots.set m (s.1,s.2-1) }):=by
   simp only[AG.drop,hs,if_neg hmax,AG.setAt];rw[show((m:Int)+1-1).toNat=m by omega]
  rw[hcnt];have HW:Hid (AG.WF OkV { σ with slots:=σ.slots.set m (s.1,s.2-1) }):=hwf.set hs' h0 (hwf.things s (List.mem_of_getElem? hs')) (by simp;omega) (by simp;omega)
  have HF:Hid ((AG.flat σ.slots).set (m*104+103) (.int .i64 ((s.2:Nat)-1:Int))=AG.flat (σ.slots.set m (s.1,s.2-1))):=by
   have:=AG.Ei (fun x hx=>okV.size _ (hwf.things x hx)) hs' (s.2-1);rw[show(((s.2-1:Nat)):Int)=(s.2:Int)-1 by omega] at this;exact this
  have hb:(0:Int)<(s.2:Int)-1:=by omega
  have HB:=Lib.hid b4;have E1:=Lib.hid e1;have E2:=Lib.hid e2;clear hs hs' hcnt hmax ht b4 e1 e2 hc hwf h;go_enter Tryz.func91,Tryz.ntmps91;go_wp2_with (first|(go_at_call 176;refine(An _ _ (σ.room:Int) (by go_simp) (by omega)).mono ?_;rintro e w1 ⟨rfl,rfl⟩)|(go_at_call 177;refine(Gi _ _ g _ cap m s.2 σ.room (by go_simp) (by go_simp) (by omega) hm (by omega) (by go_simp) (by omega)).mono ?_;rintro e w1 ⟨rfl,rfl⟩));go_ret2;refine⟨rfl,F,EH.make HW.out (Ak (p:=⟨g,m*104+103,none⟩) E1.out (Ne.symm f3) _) rfl (by simp[AG.used]) ?_ ((Ch.setCell (F:=fun k=>k=g) (Ch.refl _ _) (.inl rfl) _).owns o1 (fun k hk e=>(f4 k hk).2.2 e.symm)) f1 ?_ ?_ (by simpa using f5),(Ch.refl _ _).setCell (.inl f2) _,fun k hk=>.inl hk⟩
  · have:=AV E2.out (m*104+103) (.int .i64 ((s.2:Nat)-1:Int))
    simp only[List.length_set];refine MT this b1 b2 (by simpa using b3) ?_;rw[Array.toList_setIfInBounds,List.take_set,HB.out,HF.out]
  · simpa[Value.ownBlock] using ⟨f2,f3⟩
  simpa[Value.ownBlock] using f4
theorem Lo:∃i z,Tryz.prog.info? 272=some i∧i.zero=some z∧i.size=104∧i.bytes≤4096∧z.cells.size=104:=by
 obtain⟨i,h1,h2⟩:=Option.map_eq_some_iff.1 (by kernel_rfl:(Tryz.prog.info? 272).map (fun i=>(i.size,decide (i.bytes≤4096),i.zero.map (fun z=>z.cells.size)))=some (104,true,some 104));simp only[Prod.mk.injEq,Option.map_eq_some_iff,decide_eq_true_eq] at h2;obtain⟨h2,h3,z,h4,h5⟩:=h2;exact⟨i,z,h1,h4,h2,h3,h5⟩
theorem KV (v:Value) (hv:OkV v) (c:Int):Tryz.prog.built 272 [(0,v),(1,.int .i64 c)]=some (v.cells++#[.int .i64 c]):=by
 obtain⟨i,z,h1,h2,_,_,h3⟩:=Lo;exact J4 h1 h2 Tryz.underlying272 (by kernel_rfl:_=some [(0,103),(103,1)]) h3 v _ (okV.size v hv) rfl
theorem Q2 {w:World} {a:Nat} {F:Nat→Prop} {σ:AG} (h:At OkV w a F σ) (x:Value) (hx:OkV x) (hu:σ.used=σ.room) :
 Calls Tryz.prog 203 #[.pointer (some ⟨a,0,none⟩),x] w fun e w'=>e=.returned (.tuple #[.int .i64 0,.int .i64 9])∧BF w w' a F σ:=by
 have hr:=h.1.room;have h':=h;obtain⟨h0,vs,vf,h1,_⟩:=h';obtain⟨c0,c1,c2,c3,fz,hlt⟩:=Fw h1;have hus:(((σ.used:Nat):Int) == ((σ.room:Nat):Int))=true:=by simp[hu]
 clear hu h1 h0;obtain⟨cs,rfl,_,_⟩:=hx;go_enter Tryz.func203,Tryz.ntmps203;go_wp2_with (go_at_call 176;refine(An _ _ (σ.room:Int) (by go_simp) (by omega)).mono ?_;rintro e w1 ⟨rfl,rfl⟩);go_quiet (fail);go_wp2;go_ret2;have hc:Ch (fun _=>False) w ((w.alloc (.cells cs 168)).drewN nq):=((Ch.refl _ _).alloc _).drewN _;exact⟨rfl,F,h.Ae hc (fun _ _ h=>h),hc.mono (fun _ _ h=>h.elim),fun k hk=>.inl hk⟩
theorem OY {w:World} {a:Nat} {F:Nat→Prop} {σ:AG} (h:At OkV w a F σ) (x:Value) (hx:OkV x) (hu:σ.used≠σ.room) {fr:List Nat} {k:Nat} (hf:σ.free=fr ++ [k+1]) :
 Calls Tryz.prog 203 #[.pointer (some ⟨a,0,none⟩),x] w fun e w'=>e=.returned (.tuple #[.int .i64 (k+1),.int .i64 0])∧BF w w' a F { σ with slots:=σ.slots.set k (x,1),free:=fr }:=by
 have hr:=h.1.room;have hl:=h.1.len;have hwf:=h.1;obtain⟨_,v0,hk0⟩:=hwf.free (k+1) (by rw[hf];simp);rw[show k+1-1=k by omega] at hk0;have hfl:=hwf.Pp;obtain⟨g,cap,cur,vf,e1,e2,b1,b2,b3,b4,hk,o1,f1,f2,f3,f4,f5,hc,ht⟩:=FB okV h hk0;have hfn:σ.free.length=fr.length+1:=by rw[hf];simp
 rw[hfn] at o1;obtain⟨f,fcap,curf,rfl,hF,q1,q2,q3,q4⟩:=Bq o1 (by omega);obtain⟨hf2,hfa,hgf⟩:=f4 f rfl;have hfc:w.cell? ⟨f,fr.length,none⟩=some (.int .i64 ((k:Int)+1)):=AH hF (Dx q4 (by rw[hf];simp));obtain⟨d0,d1,d2,d3,fz,hlt⟩:=Fw e1;have hlg:=Ad e2;have hlf:=Ad hF;have hag:a≠g:=Ne.symm f3;have haf:a≠f:=Ne.symm hfa;have hfg:f≠g:=Ne.symm hgf;have hszs:∀s∈σ.slots,s.1.cells.size=103:=fun y hy=>okV.size _ (hwf.things y hy)
 have hxs:=okV.size x hx;have hx1:=okV.one x hx;have HW:Hid (AG.WF OkV { σ with slots:=σ.slots.set k (x,1),free:=fr }):=by have:=hwf.reuse hf hx;exact this
 have hkk:k*104+104≤σ.slots.length*104:=by have:(k+1)*104≤σ.slots.length*104:=Nat.mul_le_mul_right _ hk;omega
 have hkc:σ.slots.length*104≤cur.size:=by rw[b3];exact Nat.mul_le_mul_right _ b1
 obtain⟨sc,hsc⟩:∃sc,x.cells++#[Value.int .i64 1]=sc:=⟨_,rfl⟩
 have hcs:sc.size=104:=by rw[←hsc];simp[hxs]
 have hscl:sc.toList=x.cells.toList ++ [Value.int .i64 1]:=by rw[←hsc];simp
 obtain⟨new,HN⟩:∃new,Hid ((splice cur.toList (k*104) sc.toList).toArray=new):=⟨_,rfl⟩
 have HT:Hid (new.toList.take (σ.slots.length*104)=AG.flat (σ.slots.set k (x,1))):=by
  show _=_
  rw[←HN.out];have h1:=D8 b4 hkc (off:=k*104) (v:=sc.toList) (by rw[Array.length_toList,hcs];omega);have h2:=AG.JC hszs hk (s:=(x,1)) hxs;rw[←h2];rw[hscl] at h1 ⊢;exact h1
 have HS:Hid (new.size=cur.size):=by
  show _=_
  rw[←HN.out];have:=Ce cur.toList (k*104) sc.toList (by rw[Array.length_toList,hcs,Array.length_toList];omega);simpa using this
 have HFit:Hid (k*104+sc.size≤cur.size):=by show _≤_;rw[hcs];omega
 have HSz:Hid ((Tryz.prog.info? 272).map (·.size)=some sc.size):=by show _=_;rw[Lm,hcs]
 have H1:Hid (∀v∈sc.toList,v.oneCell'=true):=by
  intro v hv;rw[hscl] at hv;rcases List.mem_append.1 hv with hv|hv
  · exact hx1 v hv
  simp at hv;subst hv;rfl
 have HBd:Hid (Tryz.prog.built 272 [(0,x),(1,.int .i64 1)]=some sc):=by show _=_;rw[←hsc];exact KV x hx 1
 have HQ:Hid (curf.toList.take (fr.length*1)=fr.map fun n=>Value.int .i64 (n:Nat)):=by
  show _=_
  have:=congrArg (List.take (fr.length*1)) q4;rw[List.take_take,Nat.min_eq_left (by omega),hf] at this;rw[this];simp
 have hus:(((σ.used:Nat):Int) == ((σ.room:Nat):Int))=false:=by simp;omega
 have hub:σ.used≤65535:=by simp[AG.used] at hu ⊢;omega
 have hwk:IntKind.i64.wrap (k:Int)=k:=IntWalk.i64_in _ (by omega);have hkb:(k:Int)≤65535:=by omega
 have hfb:(fr.length:Int)≤65535:=by omega
 have HUS:Hid (((σ.slots.set k (x,1)).length-fr.length:Nat)=σ.used+1):=by show _=_;simp[AG.used,hfn];omega
 have E1:=Lib.hid e1;have E2:=Lib.hid e2;have EF:=Lib.hid hF;have F5:=Lib.hid f5;have B3:=Lib.hid b3;have Q3:=Lib.hid q3;clear hsc hscl hcs;clear f4 f5 o1 hc ht b4 e1 e2 hF hszs hkk hkc q4 hf hfn hu hwf h hk0 b3 q3 hx1;obtain⟨cs,rfl,hsz,_⟩:=hx;have hcsz:Hid (cs.size=103):=hsz;clear hsz hxs;go_enter Tryz.func203,Tryz.ntmps203;go_wp2_with (go_at_call 176;refine(An _ _ (σ.room:Int) (by go_simp) (by omega)).mono ?_;rintro e w1 ⟨rfl,rfl⟩);go_quiet (fail);go_wp2;refine AP (fun w'=>w'.cell? ⟨a,0,none⟩=some (.slice (some ⟨g,0,none⟩) σ.slots.length cap)∧w'.heap[w.heap.size]?=some (.cells cs 168 (0,0))) 8 [(0,false),(1,false),(2,false),(3,false),(4,false),(5,false),(6,false),(7,false)] (by kernel_rfl) (by kernel_rfl) ?_ ?_
 · refine⟨by go_simp,?_⟩
   refine AM (Ak (Ak (Bp (heap_alloc_new _ _) _) ?_ _) ?_ _)<;>simp<;>omega
 iterate 6 refine plan_look rfl rfl (fun w0 hS=>(by obtain⟨s1,s2⟩:=hS;clear s2;go_simp;try rfl)) ?_
 simp only[Act.put,nAq,nBq,nCq];refine Aa (cur:=cs) (t:=168) (fr:=(0,0)) rfl rfl 168 (.tmp 3) rfl w.heap.size 0 103 rfl (fun w0 hS=>hS.2) Tryz.underlying168 rfl Bm (by rw[hcsz.out];omega) cs (by simp[←hcsz.out]) ?_;simp only[Act.put,nAq,nBq,nCq];refine Cm rfl rfl 272 0 1 (.tmp 57) (.const (.int .i64 1)) rfl (.agg cs) (.int .i64 1) rfl rfl _ HBd.out ?_;refine AZ ?_;simp only[List.drop_succ_cons,List.drop_zero,Act.put,List.setIfInBounds_toArray,List.set_cons_succ,List.set_cons_zero]
 go_wp2_with (first
  | (go_at_call 176;refine(An _ _ (σ.room:Int) (by go_simp) (by omega)).mono ?_;rintro e w1 ⟨rfl,rfl⟩)
  | (with_reducible show wpList _ _ _ (⟨_,.build 272 _,_,_,_,_⟩::_) _ _;refine Dq rfl 272 _ _ _ _ rfl x (.int .i64 1) rfl rfl _ HBd.out ?_)
  | (with_reducible show wpList _ _ _ (⟨_,.store 272 _ _,_,_,_,_⟩::_) _ _;refine AI rfl 272 _ _ rfl g (k*104) _ rfl rfl (AM (Ak (Ak (Bp (AQ E2.out _) _) (by simpa using f3) _) (by simpa using f3) _)) HSz.out HFit.out H1.out new HN.out ?_)
  )
 refine NoPanic.normal ?_;go_wp2;go_ret2;have hA2:=row_setRow (AM (AV (AV (Bp (AQ E1.out (.cells cs 168)) nq) 3 (.int .i64 ((σ.used:Int)+1))) 1 (.slice (some ⟨f,0,none⟩) fr.length fcap))) hag new;have hG2:=AK (AM (Ak (p:=⟨a,1,none⟩) (Ak (p:=⟨a,3,none⟩) (Bp (AQ E2.out (.cells cs 168)) nq) f3 (.int .i64 ((σ.used:Int)+1))) f3 (.slice (some ⟨f,0,none⟩) fr.length fcap))) new;have hF2:=row_setRow (AM (Ak (p:=⟨a,1,none⟩) (Ak (p:=⟨a,3,none⟩) (Bp (AQ EF.out (.cells cs 168)) nq) hfa (.int .i64 ((σ.used:Int)+1))) hfa (.slice (some ⟨f,0,none⟩) fr.length fcap))) hfg new;refine⟨rfl,F,EH.make HW.out hA2 rfl ?_ (by simp only[List.length_set];exact B4 hG2 b1 b2 (by rw[HS.out,B3.out]) HT.out) (B4 hF2 (Nat.le_of_succ_le q1) q2 Q3.out HQ.out) f1 ?_ ?_ ?_,?_,fun k hk=>.inl hk⟩
 · have:=HUS.out
   simp[AG.used] at this ⊢;omega
 · intro k hk
   simp only[Value.ownBlock,Option.some.injEq] at hk;subst hk;exact⟨f2,f3⟩
 · intro k hk
   simp only[Value.ownBlock,Option.some.injEq] at hk;subst hk;exact⟨hf2,hfa,fun e=>by simp[Value.ownBlock] at e;exact hgf e⟩
 · intro k hk
   have:=F5.out k hk;simp;omega
 exact(((((((Ch.refl F w).alloc _).drewN _).setCell (p:=⟨a,3,none⟩) (.inl f1) _).setCell (p:=⟨a,1,none⟩) (.inl f1) _).drew).setRow (.inl f2) _)
theorem Qt {w:World} {a:Nat} {F:Nat→Prop} {σ:AG} (h:At OkV w a F σ) (x:Value) (hx:OkV x) (hu:σ.used≠σ.room) (hf:σ.free = []) :
 Calls Tryz.prog 203 #[.pointer (some ⟨a,0,none⟩),x] w fun e w'=>e=.returned (.tuple #[.int .i64 (σ.slots.length+1),.int .i64 0])∧BF w w' a F { σ with slots:=σ.slots ++ [(x,1)] }:=by
 have hr:=h.1.room;have hl:=h.1.len;have hwf:=h.1;have hul:σ.used=σ.slots.length:=by simp[AG.used,hf]
 obtain⟨h0,vs,vf,h1,h2,h3,h4,h5,h6,h7⟩:=h;obtain⟨ao,cap,rfl⟩:=Am h2;have hfl:σ.free.length=0:=by rw[hf];rfl
 rw[hfl] at h3;obtain⟨af,capf,rfl⟩:=Am h3;obtain⟨d0,d1,d2,d3,fz,hlt⟩:=Fw h1;have hxs:=okV.size x hx;have hx1:=okV.one x hx;have HW:Hid (AG.WF OkV { σ with slots:=σ.slots ++ [(x,1)] }):=hwf.push hf hu hx;obtain⟨sc,hsc⟩:∃sc,x.cells++#[Value.int .i64 1]=sc:=⟨_,rfl⟩
 have hcs:sc.size=104:=by rw[←hsc];simp[hxs]
 have hscl:sc.toList=x.cells.toList ++ [Value.int .i64 1]:=by rw[←hsc];simp
 obtain⟨i0,z0,hi0,hz0,hz1,hz2,hz3⟩:=Lo;have HI:=Lib.hid hi0;have HZ:=Lib.hid hz0;have HZ1:=Lib.hid hz1;have HZ3:=Lib.hid hz3;have HCS:Hid ((Value.agg sc).cells.size=i0.size):=by show _=_;rw[hz1];exact hcs
 have HSM:Hid (i0.size≤65536∧0<i0.size):=by show _∧_;rw[hz1];omega
 have HBY:Hid ((σ.slots.length+1)*i0.bytes≤140737488355328):=by
  show _≤_
  have:(σ.slots.length+1)*i0.bytes≤65537*4096:=Nat.mul_le_mul (by omega) hz2;omega
 have HL:Hid (sc.toList.length=1*104):=by show _=_;rw[Array.length_toList,hcs]
 have H1:Hid (∀v∈sc.toList,v.oneCell'=true):=by
  intro v hv;rw[hscl] at hv;rcases List.mem_append.1 hv with hv|hv
  · exact hx1 v hv
  simp at hv;subst hv;rfl
 have HBd:Hid (Tryz.prog.built 272 [(0,x),(1,.int .i64 1)]=some sc):=by show _=_;rw[←hsc];exact KV x hx 1
 have HFL:Hid (AG.flat σ.slots++sc.toList=AG.flat (σ.slots ++ [(x,1)])):=by show _=_;rw[AG.NF,hscl];simp[AG.flat]
 have hus:(((σ.used:Nat):Int) == ((σ.room:Nat):Int))=false:=by simp;omega
 have hub:σ.used≤65535:=by omega
 have HUL:=Lib.hid hul;have E1:=Lib.hid h1;have H2:=Lib.hid h2;have H3:=Lib.hid h3;have H5:=Lib.hid h5;have H6:=Lib.hid h6;have H7:=Lib.hid h7;have HFr:=Lib.hid hf;clear h1 h2 h3 h5 h6 h7 h0 hsc hcs hscl hi0 hz0 hz1 hz2 hz3 hx1 hwf hf hfl hu hul;obtain⟨cs,rfl,hsz,_⟩:=hx;have hcsz:Hid (cs.size=103):=hsz;clear hsz hxs;go_enter Tryz.func203,Tryz.ntmps203;go_wp2_with (go_at_call 176;refine(An _ _ (σ.room:Int) (by go_simp) (by omega)).mono ?_;rintro e w1 ⟨rfl,rfl⟩);go_quiet (fail);go_wp2;refine AP (fun w'=>w'.cell? ⟨a,0,none⟩=some (.slice ao σ.slots.length cap)∧w'.heap[w.heap.size]?=some (.cells cs 168 (0,0))) 9 [(0,false),(1,false),(2,false),(3,false),(4,false),(5,false),(6,false),(7,true),(8,true)] (by kernel_rfl) (by kernel_rfl) ?_ ?_
 · refine⟨by go_simp,?_⟩
   refine AM (Ak (Bp (heap_alloc_new _ _) _) ?_ _)<;>simp<;>omega
 iterate 5 refine plan_look rfl rfl (fun w0 hS=>(by obtain⟨s1,s2⟩:=hS;clear s2;go_simp;try rfl)) ?_
 simp only[Act.put,nAq,nBq,nCq];refine Aa (cur:=cs) (t:=168) (fr:=(0,0)) rfl rfl 168 (.tmp 3) rfl w.heap.size 0 103 rfl (fun w0 hS=>hS.2) Tryz.underlying168 rfl Bm (by rw[hcsz.out];omega) cs (by simp[←hcsz.out]) ?_;simp only[Act.put,nAq,nBq,nCq];refine Cm rfl rfl 272 0 1 (.tmp 66) (.const (.int .i64 1)) rfl (.agg cs) (.int .i64 1) rfl rfl _ HBd.out ?_;simp only[Act.put,nAq,nBq,nCq];refine AW rfl ?_;refine Bo rfl 273 (.tmp 67) rfl 272 i0 z0 (.agg sc) rfl Tryz.underlying273 HI.out HZ.out HSM.out.1 HSM.out.2 HCS.out ?_;refine wpList_nil ?_;change _∧_;refine⟨⟨by go_simp,AQ (AM (Ak (p:=⟨a,3,none⟩) (Bp (heap_alloc_new _ _) _) (by simp;omega) _)) _⟩,?_⟩;simp only[Act.put,nAq,nBq,nCq];refine AW rfl ?_;refine BI rfl (.tmp 65) (.tmp 68) 273 rfl 272 i0 z0 104 i0.bytes Tryz.underlying273 HI.out HZ.out HZ1.out rfl HZ3.out (by decide) (.slice ao σ.slots.length cap) σ.slots.length (AG.flat σ.slots) rfl ((((((Ch.refl (fun k=>k=a) w).alloc (.cells cs 168)).drewN nq).setCell (p:=⟨a,3,none⟩) (.inl rfl) (.int .i64 ((σ.used:Int)+1))).drew.alloc _).owns H2.out (fun k hk e=>(H5.out k hk).2 e)) _ 1 1 sc.toList rfl HL.out (GI (cs:=sc) (t:=272) (fr:=(0,0)) (BG _ _ _ (by simp))) H1.out (by unfold maxLen;omega) HBY.out ?_;intro v0 w1 own' grow' ob';obtain⟨ao',cap',rfl⟩:=Am own';have CH:=(((((Ch.refl (fun k=>k=a) w).alloc (.cells cs 168)).drewN nq).setCell (p:=⟨a,3,none⟩) (.inl rfl) (.int .i64 ((σ.used:Int)+1))).drew.alloc (.cells sc 272)).mono (G:=fun k=>k=a∨(Value.slice ao σ.slots.length cap).ownBlock=some k) (fun _ _ h=>.inl h) |>.grown grow' (fun k hk=>.inl (.inr hk));have hA1:w1.heap[a]?=some (.cells #[.slice ao σ.slots.length cap,.slice af 0 capf,.int .i64 σ.room,.int .i64 ((σ.used:Int)+1)] 275 (0,0)):=(grow'.block a (by simp;omega) (fun e=>(H5.out a e.symm).2 rfl)).trans (AQ (AM (AV (Bp (AQ E1.out _) _) 3 _)) _);have hsz1:w.heap.size+1≤w1.heap.size:=(by have:=grow'.size;simp at this;omega)
 have OB:Hid ((Value.slice ao' (σ.slots.length+1) cap').ownBlock=(Value.slice ao σ.slots.length cap).ownBlock∨∀k,(Value.slice ao' (σ.slots.length+1) cap').ownBlock=some k→w.heap.size≤k):=ob'.imp id (fun h k hk=>(by have:=h k hk;simp at this;omega));obtain⟨c0,c1,c2,c3,cfz,clt⟩:=Fw hA1;have A1:=Lib.hid hA1;have OW:=Lib.hid own';have CC:=Lib.hid CH;have hB1:w1.heap[w.heap.size]?=some (.cells cs 168 (0,0)):=(grow'.block _ (by simp;omega) (fun e=>by have:=H7.out _ (H5.out _ e.symm).1;omega)).trans (AQ (AM (Ak (p:=⟨a,3,none⟩) (Bp (heap_alloc_new _ _) _) (by simp;omega) _)) _);refine wpList_nil ?_;change _∧_;refine⟨⟨c0,hB1⟩,?_⟩;clear hB1;clear hA1 own' CH grow' ob' d0 d1 d2 d3 fz hlt;refine AZ ?_;simp only[List.drop_succ_cons,List.drop_zero,Act.put,List.setIfInBounds_toArray,List.set_cons_succ,List.set_cons_zero];go_wp2;refine NoPanic.normal ?_;go_wp2;go_ret2;have hA2:=AV A1.out 0 (.slice ao' (σ.slots.length+1) cap')
 have hne:∀k,(Value.slice ao' (σ.slots.length+1) cap').ownBlock=some k→k≠a∧(F k∨w.heap.size≤k)∧(Value.slice af 0 capf).ownBlock≠some k:=fun k hk=>by
  rcases OB.out with e|e
  · rw[e] at hk
    exact⟨(H5.out k hk).2,.inl (H5.out k hk).1,fun h=>(H6.out k h).2.2 hk⟩
  have:=e k hk;have h1:=H7.out a h4;exact⟨by omega,.inr this,fun h=>by have:=H7.out k (H6.out k h).1;omega⟩
 refine⟨rfl,fun k=>F k∨(w.heap.size≤k∧k<w1.heap.size),EH.make HW.out hA2 rfl ?_ ?_ ?_ (.inl h4) ?_ ?_ ?_,?_,fun k hk=>hk.imp id (fun h=>h.1)⟩
 · have:=HUL.out
   simp[AG.used,HFr.out] at this ⊢
 · have:=((Ch.refl (fun k=>k=a) w1).setCell (p:=⟨a,0,none⟩) (.inl rfl) (.slice ao' (σ.slots.length+1) cap')).owns OW.out (fun k hk e=>(hne k hk).1 e)
   rw[HFL.out] at this;simpa using this
 · have:=(CC.out.setCell (p:=⟨a,0,none⟩) (.inl (.inl rfl)) (.slice ao' (σ.slots.length+1) cap')).owns H3.out (fun k hk e=>e.elim (H6.out k hk).2.1 (H6.out k hk).2.2)
   rw[HFr.out] at this ⊢;exact this
 · intro k hk
   obtain⟨h1,h2,h3⟩:=hne k hk;exact⟨h2.imp id (fun h=>⟨h,(OW.out.lt k hk).2⟩),h1⟩
 · intro k hk
   obtain⟨h1,h2,h3⟩:=H6.out k hk;exact⟨.inl h1,h2,fun e=>(hne k e).2.2 hk⟩
 · intro k hk
   simp only[World.size_setCell];rcases hk with hk|hk
   · have:=H7.out k hk
     omega
   exact hk.2
 refine((CC.out).mono ?_).setCell (p:=⟨a,0,none⟩) (.inl h4) _;rintro k hk (rfl|h)
 · exact h4
 exact(H5.out k h).1
theorem PW {w:World} {a:Nat} {F:Nat→Prop} {σ:AG} (h:At OkV w a F σ) (x:Value) (hx:OkV x) :
 Calls Tryz.prog 203 #[.pointer (some ⟨a,0,none⟩),x] w fun e w'=>e=.returned (.tuple #[.int .i64 (σ.take x).1,.int .i64 (σ.take x).2.1])∧BF w w' a F (σ.take x).2.2:=by
 by_cases hu:σ.used=σ.room
 · have:σ.take x=(0,9,σ):=by simp[AG.take,hu]
   rw[this];exact Q2 h x hx hu
 cases hg:σ.free.getLast? with
 | none =>
  have:σ.take x=((σ.slots.length:Int)+1,0, { σ with slots:=σ.slots ++ [(x,1)] }):=by simp[AG.take,hu,hg]
  rw[this];exact Qt h x hx hu (by simpa using hg)
 | some n =>
  have hn:σ.free=σ.free.dropLast ++ [n]:=by
   obtain⟨ys,hys⟩:=List.getLast?_eq_some_iff.1 hg;rw[hys];simp
  obtain⟨h1,_⟩:=h.1.free n (by rw[hn];simp);have:σ.take x=((n:Int),0, { σ with slots:=σ.slots.set (n-1) (x,1),free:=σ.free.dropLast }):=by simp[AG.take,hu,hg]
  rw[this];obtain⟨k,rfl⟩:∃k,n=k+1:=⟨n-1,by omega⟩
  rw[show(((k+1:Nat)):Int)=(k:Int)+1 by omega,show k+1-1=k by omega];exact OY h x hx hu hn
noncomputable def got (σ:AG) (n:Int):Value:=((σ.get? n).map (·.1)).getD zero
def KN (σ:AG) (n:Int):Int:=if (σ.get? n).isSome then 0 else 7
theorem Rw {w:World} {a:Nat} {F:Nat→Prop} {σ:AG} (h:At OkV w a F σ) (n:Int) (hs:σ.get? n=none) :
 Calls Tryz.prog 174 #[.pointer (some ⟨a,0,none⟩),.int .i64 n] w fun e w'=>e=.returned (.tuple #[zero,.int .i64 7])∧AN w w':=by
 have hr:=h.1.room;have HS:=Lib.hid hs;clear hs;have h':=h;obtain⟨h0,vs,vf,h1,_⟩:=h';obtain⟨c0,c1,c2,c3,fz,hlt⟩:=Fw h1;clear h0 h1;obtain⟨zc,hzc,hzs,hz1⟩:=BP;have HZ:Hid ((Tryz.prog.info? 168).bind (·.zero)=some (.agg zc)):=by show _=_;rw[Lz,hzc]
 rw[hzc];have HZS:=Lib.hid hzs;have HZ1:=Lib.hid hz1;clear hzc hzs hz1;have hA:At OkV ((w.alloc (.cells zc 168)).alloc (.cells zc 168)) a F σ:=h.Ae (((Ch.refl (fun _=>False) w).alloc _).alloc _) (fun _ _ h=>h);go_enter Tryz.func174,Tryz.ntmps174
 go_wp2_with (first
  | (go_at_call 176;refine(An _ _ (σ.room:Int) (by go_simp) (by omega)).mono ?_;rintro e w1 ⟨rfl,rfl⟩)
  | (go_at_call 177;refine(Py okV hA HS.out).mono ?_;rintro e w1 ⟨rfl,rfl⟩)
  | (with_reducible show wpList _ _ _ (⟨_,.alloc _,_,_,_,_⟩::_) _ _;refine AO rfl 168 rfl _ HZ.out ?_)
  | (with_reducible show wpList _ _ _ (⟨_,.load 168 _,_,_,_,_⟩::_) _ _;refine AJ rfl 168 _ rfl (w.heap.size+1) 0 rfl (BG _ (.cells zc 168) _ (by simp)) Tryz.underlying168 rfl Bm (by rw[HZS.out];omega) zc (by simp[←HZS.out]) ?_)
  | (with_reducible show wpList _ _ _ (⟨_,.store 168 _ _,_,_,_,_⟩::_) _ _;refine AI rfl 168 _ _ rfl w.heap.size 0 zc rfl rfl (AQ (heap_alloc_new w (.cells zc 168)) _) (by rw[Bm,HZS.out]) (by simp) HZ1.out zc (by rw[AT _ _ rfl]) ?_))
 refine Al rfl rfl (AK (AQ (heap_alloc_new w (.cells zc 168)) _) zc) Tryz.underlying168 rfl (by rw[Bm,HZS.out]) rfl ⟨rfl,?_⟩;exact(((Ch.refl _ _).alloc _).alloc _).setRow (.inr (Nat.le_refl _)) _
theorem Se {w:World} {a:Nat} {F:Nat→Prop} {σ:AG} (h:At OkV w a F σ) (n:Int) (s:Value×Nat) (hs:σ.get? n=some s) :
 Calls Tryz.prog 174 #[.pointer (some ⟨a,0,none⟩),.int .i64 n] w fun e w'=>e=.returned (.tuple #[s.1,.int .i64 0])∧AN w w':=by
 have hr:=h.1.room;have hl:=h.1.len;obtain⟨m,rfl,hs',h0,_⟩:=AG.Ac hs;have hok:OkV s.1:=h.1.things s (List.mem_of_getElem? hs');obtain⟨g,cap,cur,vf,e1,e2,b1,b2,b3,b4,hm,o1,f1,f2,f3,f4,f5,hc,ht⟩:=FB okV h hs';obtain⟨d0,d1,d2,d3,fz,hlt⟩:=Fw e1;have hcc:=AH e2 hc;have hlg:=Ad e2
 have hms:m*104+104≤cur.size:=by
  rw[b3];have h1:(m+1)*104≤σ.slots.length*104:=Nat.mul_le_mul_right _ hm;have h2:σ.slots.length*104≤cap*104:=Nat.mul_le_mul_right _ b1;omega
 obtain⟨zc,hzc,hzs,hz1⟩:=BP;have HZ:Hid ((Tryz.prog.info? 168).bind (·.zero)=some (.agg zc)):=by show _=_;rw[Lz,hzc]
 obtain⟨cs,hcs,hsz,hs1⟩:=hok;rw[hcs] at ht ⊢
 have HV:Hid (cur.extract (m*104) (m*104+103)=cs):=by
  show _=_
  apply Array.ext';have:(Value.agg cs).cells.toList=cs.toList:=rfl;rw[this] at ht;rw[←ht];simp[List.take_drop]
 have HZS:=Lib.hid hzs;have HSZ:=Lib.hid hsz;have HS1:=Lib.hid hs1;have E2:=Lib.hid e2;have HMS:Hid (m*104+103≤cur.size):=by show _≤_;omega
 clear hzc hzs hz1 hcs hsz hs1 e1 e2 hc ht b3 b4 hs hs' h hms o1 f4 f5;go_enter Tryz.func174,Tryz.ntmps174
 go_wp2_with (first
  | (go_at_call 176;refine(An _ _ (σ.room:Int) (by go_simp) (by omega)).mono ?_;rintro e w1 ⟨rfl,rfl⟩)
  | (go_at_call 177;refine(Gi _ _ g _ cap m s.2 σ.room (by go_simp) (by go_simp) (by omega) hm (by omega) (by go_simp) (by omega)).mono ?_;rintro e w1 ⟨rfl,rfl⟩)
  | (with_reducible show wpList _ _ _ (⟨_,.alloc _,_,_,_,_⟩::_) _ _;refine AO rfl 168 rfl _ HZ.out ?_)
  | (with_reducible show wpList _ _ _ (⟨_,.load 168 _,_,_,_,_⟩::_) _ _;refine AJ rfl 168 _ rfl g (m*104) rfl (AQ (AQ E2.out _) _) Tryz.underlying168 rfl Bm HMS.out cs HV.out ?_)
  | (with_reducible show wpList _ _ _ (⟨_,.store 168 _ _,_,_,_,_⟩::_) _ _;refine AI rfl 168 _ _ rfl w.heap.size 0 cs rfl rfl (AQ (heap_alloc_new w (.cells zc 168)) _) (by rw[Bm,HSZ.out]) (by rw[HSZ.out,HZS.out];omega) HS1.out cs (by rw[AT _ _ (by rw[Array.length_toList,Array.length_toList,HSZ.out,HZS.out])]) ?_))
 refine Al rfl rfl (AK (AQ (heap_alloc_new w (.cells zc 168)) _) cs) Tryz.underlying168 rfl (by rw[Bm,HSZ.out]) rfl ⟨rfl,?_⟩;exact(((Ch.refl _ _).alloc _).alloc _).setRow (.inr (Nat.le_refl _)) _
theorem Tk {w:World} {a:Nat} {F:Nat→Prop} {σ:AG} (h:At OkV w a F σ) (n:Int) :
 Calls Tryz.prog 174 #[.pointer (some ⟨a,0,none⟩),.int .i64 n] w fun e w'=>e=.returned (.tuple #[got σ n,.int .i64 (KN σ n)])∧AN w w':=by
 cases hs:σ.get? n with
 | none=>simpa[got,KN,hs] using Rw h n hs
 | some s=>simpa[got,KN,hs] using Se h n s hs
theorem Vv {w:World} {a:Nat} {F:Nat→Prop} {σ:AG} (h:At OkV w a F σ) (n:Int) (x:Value) (hx:OkV x) :
 Calls Tryz.prog 175 #[.pointer (some ⟨a,0,none⟩),.int .i64 n,x] w fun e w'=>e=.returned (.int .i64 (σ.set n x).1)∧BF w w' a F (σ.set n x).2:=by
 have hr:=h.1.room;have hl:=h.1.len;cases hs:σ.get? n with
 | none =>
  have hcnt:σ.set n x=(7,σ):=by simp[AG.set,hs]
  rw[hcnt];have HS:=Lib.hid hs;clear hs hcnt;have h':=h;obtain⟨h0,vs,vf,h1,_⟩:=h';obtain⟨c0,c1,c2,c3,fz,hlt⟩:=Fw h1;clear h0 h1;obtain⟨cs,rfl,_,_⟩:=hx;have hA:At OkV (w.alloc (.cells cs 168)) a F σ:=h.Ae ((Ch.refl (fun _=>False) w).alloc _) (fun _ _ h=>h);go_enter Tryz.func175,Tryz.ntmps175
  go_wp2_with (first
   | (go_at_call 176;refine(An _ _ (σ.room:Int) (by go_simp) (by omega)).mono ?_;rintro e w1 ⟨rfl,rfl⟩)
   | (go_at_call 177;refine(Py okV hA HS.out).mono ?_;rintro e w1 ⟨rfl,rfl⟩))
  go_ret;exact⟨rfl,F,hA,(Ch.refl _ _).alloc _,fun k hk=>.inl hk⟩
 | some s =>
  obtain⟨m,rfl,hs',h0,_⟩:=AG.Ac hs;have hle:=h.1.counts s (List.mem_of_getElem? hs');obtain⟨g,cap,cur,vf,e1,e2,b1,b2,b3,b4,hm,o1,f1,f2,f3,f4,f5,hc,ht⟩:=FB okV h hs';obtain⟨d0,d1,d2,d3,fz,hlt⟩:=Fw e1;have hcc:=AH e2 hc;have hlg:=Ad e2;have hwf:=h.1;have hag:a≠g:=Ne.symm f3
  have hcnt:σ.set (m+1) x=(0, { σ with slots:=σ.slots.set m (x,s.2) }):=by
   simp only[AG.set,hs,AG.setAt];rw[show((m:Int)+1-1).toNat=m by omega]
  rw[hcnt];have hszs:∀s∈σ.slots,s.1.cells.size=103:=fun y hy=>okV.size _ (hwf.things y hy)
  have hxs:=okV.size x hx;have hkk:m*104+104≤σ.slots.length*104:=by have:(m+1)*104≤σ.slots.length*104:=Nat.mul_le_mul_right _ hm;omega
  have hkc:σ.slots.length*104≤cur.size:=by rw[b3];exact Nat.mul_le_mul_right _ b1
  have HW:Hid (AG.WF OkV { σ with slots:=σ.slots.set m (x,s.2) }):=hwf.set hs' h0 hx hle h0;obtain⟨new,HN⟩:∃new,Hid ((splice cur.toList (m*104) x.cells.toList).toArray=new):=⟨_,rfl⟩
  have HT:Hid (new.toList.take (σ.slots.length*104)=AG.flat (σ.slots.set m (x,s.2))):=by
   show _=_
   rw[←HN.out];have h1:=D8 b4 hkc (off:=m*104) (v:=x.cells.toList) (by rw[Array.length_toList,hxs];omega);rw[←AG.Hx hszs hs' hxs];exact h1
  have HS:Hid (new.size=cur.size):=by
   show _=_
   rw[←HN.out];have:=Ce cur.toList (m*104) x.cells.toList (by rw[Array.length_toList,hxs,Array.length_toList];omega);simpa using this
  have HFit:Hid (m*104+103≤cur.size):=by show _≤_;omega
  have E1:=Lib.hid e1;have E2:=Lib.hid e2;have O1:=Lib.hid o1;have F4:=Lib.hid f4;have F5:=Lib.hid f5;have B3:=Lib.hid b3;obtain⟨cs,rfl,hsz,hs1⟩:=hx;have HSZ:Hid (cs.size=103):=hsz;have HS1:=Lib.hid hs1;clear hsz hs1 hxs;clear e1 e2 hc ht b3 b4 hs hs' h o1 f4 f5 hwf hszs hkk hkc hcnt hle;go_enter Tryz.func175,Tryz.ntmps175
  go_wp2_with (first
   | (go_at_call 176;refine(An _ _ (σ.room:Int) (by go_simp) (by omega)).mono ?_;rintro e w1 ⟨rfl,rfl⟩)
   | (go_at_call 177;refine(Gi _ _ g _ cap m s.2 σ.room (by go_simp) (by go_simp) (by omega) hm (by omega) (by go_simp) (by omega)).mono ?_;rintro e w1 ⟨rfl,rfl⟩)
   | ((with_reducible show zOq (.load 168 _));refine AJ rfl 168 _ rfl w.heap.size 0 rfl (heap_alloc_new w (.cells cs 168)) Tryz.underlying168 rfl Bm (by rw[HSZ.out];omega) cs (by simp[←HSZ.out]) ?_)
   | ((with_reducible show zOq (.store 168 _ _));refine AI rfl 168 _ _ rfl g (m*104) cs rfl rfl (AQ E2.out _) (by rw[Bm,HSZ.out]) (by rw[HSZ.out];exact HFit.out) HS1.out new HN.out ?_))
  go_ret;have hA2:=row_setRow (AQ E1.out (.cells cs 168)) hag new;have hG2:=AK (AQ E2.out (.cells cs 168)) new;refine⟨rfl,F,EH.make HW.out hA2 rfl (by simp[AG.used]) (by simp only[List.length_set];exact B4 hG2 b1 b2 (by rw[HS.out,B3.out]) HT.out) ?_ f1 ?_ ?_ ?_,?_,fun k hk=>.inl hk⟩
  · exact(((Ch.refl (fun k=>k=g) w).alloc _).setRow (.inl rfl) _).owns O1.out (fun k hk e=>(F4.out k hk).2.2 e.symm)
  · intro k hk
    simp only[Value.ownBlock,Option.some.injEq] at hk;subst hk;exact⟨f2,f3⟩
  · intro k hk
    obtain⟨h1,h2,h3⟩:=F4.out k hk;exact⟨h1,h2,fun e=>by simp only[Value.ownBlock,Option.some.injEq] at e;exact h3 e⟩
  · intro k hk
    have:=F5.out k hk;simp
    try omega
  exact((Ch.refl F w).alloc _).setRow (.inl f2) _
def ints (l:List Nat):List Value:=l.map fun n=>Value.int .i64 (n:Nat)
end Go.Proofs.YtngbdbpofifimaaGreat.SlabN

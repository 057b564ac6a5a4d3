/- Laws of the layers below. -/
import Derived.Test.YtngbdbpofifimaaGreatQl41
set_option maxHeartbeats 3200000
set_option maxRecDepth 100000
set_option linter.unusedVariables false
namespace Go.Proofs.YtngbdbpofifimaaGreat.Law15
open Go.RowKit Go.Sort Go.Proofs.YtngbdbpofifimaaGreat.ShaW Go.Proofs.YtngbdbpofifimaaGreat.Path Go.Proofs.YtngbdbpofifimaaGreat.Store Go.Proofs.YtngbdbpofifimaaGreat.Law9 Go.Proofs.YtngbdbpofifimaaGreat.Law14
section
variable {w0 w w' : World} {d v s room tn : Nat} {G : Nat→Prop} {σ σ' : AD Nd} {root r : Int} {L L' : AS} {M M' : Nmd} {R : List (Int×AS)}
def Cf:List UInt8:=List.replicate 32 0
def Cm:List UInt8:=128::List.replicate 31 0
theorem Gm:upd (upd [] Cf [97]) Cm [] = [(Cm,[]),(Cf,[97])]:=by decide +kernel
theorem L4:tree 256 (upd (upd [] Cf [97]) Cm [])=.node (.leaf Cf [97]) (.leaf Cm []):=by
 have e0:sideE 0 (255-255) [(Cm,[]),(Cf,[97])] = [(Cf,[97])]:=by decide +kernel
 have e1:sideE 1 (255-255) [(Cm,[]),(Cf,[97])] = [(Cm,[])]:=by decide +kernel
 rw[Gm,Bu (m:=255) (by simp),e0,e1,BU,BU]
theorem SN:(tree 256 (upd (upd [] Cf [97]) Cm [])).dig=Tag.DI (Tag.DK Cf (Tag.Av [97])) (Tag.DK Cm (Tag.Av [])):=by
 rw[L4];rfl
theorem QE:(tree 256 (upd (upd [] Cf [97]) Cm [])).nodes=3:=by
 rw[L4];rfl
theorem Qh (D:BE σ [(root,upd (upd [] Cf [97]) Cm [])]):Store.live σ=3:=by
 rw[D.live (List.mem_cons_self ..) (fun q hq=>.inr (by rw[List.mem_singleton.1 hq])),QE]
theorem T8 {bs:List UInt8} (h:(Cf,bs)∈upd (upd [] Cf [97]) Cm []):bs = [97]:=by
 rw[Gm] at h;rcases List.mem_cons.1 h with e|e
 · have:Cf=Cm:=congrArg Prod.fst e
   exact absurd this (by decide +kernel)
 have:=List.mem_singleton.1 e;exact congrArg Prod.snd this
theorem PK:Cf∈keysOf (upd (upd [] Cf [97]) Cm []):=by
 rw[Gm]
 decide +kernel
theorem Qr {l out:List Wm} (h:D3 l out) (hn:(l.map (·.key)).Nodup) (hg:∀x∈l,x.gone=false):out=l:=by
 induction h with
 | nil=>rfl
 | @new l out x h hp ih =>
  rw[List.map_append] at hn;rw[ih (List.nodup_append.1 hn).1 (fun y hy=>hg y (List.mem_append_left _ hy))];rw[Wm.LJ.2.1 (hg x (List.mem_append_right _ (List.mem_singleton.2 rfl)))]
 | @old l out x q i h hq hk ih =>
  exfalso;rw[List.map_append] at hn;have e:=ih (List.nodup_append.1 hn).1 (fun y hy=>hg y (List.mem_append_left _ hy));rw[e] at hq;refine(List.nodup_append.1 hn).2.2 q.key (List.mem_map_of_mem (List.mem_of_getElem? hq)) x.key (by simp) hk
theorem NF:∀(l:List Wm),(∀x∈l,x.gone=false)→FZ (l.map Wm.wp)=l.map Wm.ent
 | [],_=>rfl
 | x::l,h=>by
  have e:x.wp=(x.key,some x.val):=by
   unfold Wm.wp;rw[h x (List.mem_cons_self ..)];rfl
  have ih:=NF l fun y hy=>h y (List.mem_cons_of_mem _ hy)
  unfold FZ at ih ⊢;rw[List.map_cons,List.map_cons,List.filterMap_cons,e,ih];rfl
theorem T0 (l:List Wm):Fq (l.map Wm.wp)=l.map (·.key):=by
 unfold Fq;rw[List.map_map];refine List.map_congr_left fun x _=>?_
 show x.wp.1=x.key
 unfold Wm.wp;split<;>rfl
theorem TB (D:BE σ ((root,L)::R)) {l:List Ay} {er:Int} (hb:VD σ l L L' er) (h32:∀x∈l,x.kb.length=32) (hg:∀x∈l,x.gone=false) (hn:(l.map (·.kb)).Nodup) (hf:∀x∈l,x.kb∉keysOf L) (hv:∀x∈l,x.vb.length≤1024)
 (h64:l.length≤64) (hr:Store.live σ+258*l.length≤σ.room):er=0∧L'.Perm (L++l.map fun x=>(x.kb,x.vb)):=by
 rcases hb with⟨_,⟨x,hx,h⟩,_⟩|⟨_,n,h1,h2,h3⟩
 · exact absurd (h32 x hx) h
 have hlong:(l.map Ay.wm).any GZ=false:=by
  rw[Bool.eq_false_iff];intro h;obtain⟨y,hy,e⟩:=List.any_eq_true.1 h;obtain⟨x,hx,rfl⟩:=List.mem_map.1 hy;unfold GZ at e;have:=hv x hx;have e2:x.wm.gone=false:=hg x hx;have e3:x.wm.val=x.vb:=rfl;rw[e2,e3] at e;simp at e;omega
 have hl64:¬64<(l.map Ay.wm).length:=by rw[List.length_map];omega
 have he:er=if Cw σ (n:Nat)=true then 0 else 9:=by
  rw[h1];unfold DB;rw[if_neg hl64,hlong,if_neg (by simp)]
 have hne:er≠4:=by rw[he];split<;>decide
 obtain⟨l',h4,h5⟩:=h2 hne;have hlen:=h4.len;rw[List.length_map] at hlen
 have hfit:Cw σ (n:Nat)=true:=by
  unfold Cw;have:=D.good.used;simp only[Bool.and_eq_true,decide_eq_true_eq];omega
 rw[if_pos hfit] at he;refine⟨he,?_⟩;rcases h3 with⟨h6,_⟩|⟨_,l2,h6,rfl⟩
 · exact absurd he h6
 obtain⟨out,h7,h8⟩:=h6.ex;have h9:=Qr h7 (by rw[Sy];exact hn) (fun y hy=>by obtain⟨x,hx,rfl⟩:=List.mem_map.1 hy;exact hg x hx);subst h9
 have hg2:∀y∈l2,y.gone=false:=fun y hy=>by
  obtain⟨x,hx,rfl⟩:=List.mem_map.1 (h8.mem_iff.1 hy);exact hg x hx
 have hL:L.filter (fun p => !decide (p.1∈Fq (l2.map Wm.wp)))=L:=by
  refine List.filter_eq_self.2 fun p hp=>?_
  rw[T0];simp only[Bool.not_eq_true',decide_eq_false_iff_not];intro hm;obtain⟨y,hy,e⟩:=List.mem_map.1 hm;obtain⟨x,hx,rfl⟩:=List.mem_map.1 (h8.mem_iff.1 hy)
  exact hf x hx (by
   have e':x.kb=p.1:=e;rw[e'];exact List.mem_map_of_mem hp)
 unfold CT;rw[hL,NF l2 hg2]
 have h10:(l2.map Wm.ent).Perm (l.map fun x=>(x.kb,x.vb)):=by
  have:=h8.map Wm.ent;rw[List.map_map] at this;exact this
 exact(h10.append_right L).trans List.perm_append_comm
end
end Go.Proofs.YtngbdbpofifimaaGreat.Law15
namespace Go.Proofs.YtngbdbpofifimaaGreat.Store
open Go.RowKit Go.Sort Go.Proofs.YtngbdbpofifimaaGreat.ShaW Go.Proofs.YtngbdbpofifimaaGreat.Path Go.Proofs.YtngbdbpofifimaaGreat.Tag
theorem Pk:∃i,Tryz.prog.info? 5=some i∧i.zero=some (.int .u8 0)∧i.size=1∧i.bytes=1:=by
 obtain⟨i,h1,h2⟩:=Option.map_eq_some_iff.1 (by kernel_rfl:(Tryz.prog.info? 5).map (fun i=>(i.zero,i.size,i.bytes))=some (some (.int .u8 0),1,1));simp only[Prod.mk.injEq] at h2;exact⟨i,h1,h2.1,h2.2.1,h2.2.2⟩
theorem ER {w:World} {ops:Array Oper} {rest:List Oper} {o:Oper} {a:Act} {Q:Exit→Act→World→Prop} (hgd:o.guard=none) (s x:Operand)
 (ho:o.op=.call { callee:=.builtin .append,args:=#[s,x],argTypes:=#[29,29] }) (v:Value) (n:Nat) (xs:List UInt8) (hs:a.eval s=v) (hown:w.ownsRow 0 5 1 v n (xs.map bv))
 (xv:Value) (p:List UInt8) (hx:a.eval x=xv) (hI:Bytes w xv p) (hb:n+p.length≤1000000000000)
 (h:∀v' w',w'.ownsRow 0 5 1 v' (n+p.length) ((xs++p).map bv)→w.grownBy w' v.ownBlock→(v'.ownBlock=v.ownBlock∨∀k,v'.ownBlock=some k→w.heap.size≤k)→wpList Tryz.prog ops Q rest (a.put o.dst v') w'):wpList Tryz.prog ops Q (o::rest) a w:=by
 obtain⟨i0,p1,p2,p3,p4⟩:=Pk;obtain⟨ao,cap,rfl,_,_,hat⟩:=hI;rcases Nat.eq_zero_or_pos p.length with h0|h0
 · obtain rfl:p = []:=List.eq_nil_of_length_eq_zero h0
   obtain⟨base,cap',e,hle⟩:∃base cap,v=.slice base n cap∧n≤cap:=by
    rcases hown.2 with⟨rfl,h1⟩|⟨g,cap,cur,rfl,_,_,h3,_⟩
    · exact⟨none,0,by rw[h1],by omega⟩
    exact⟨_,cap,rfl,h3⟩
   have hsrc:Src Tryz.prog i0.size 29 (.slice ao 0 cap) 0 [] w:=by
    cases ao with
    | none=>exact Src.ofNil w Tryz.underlying29 cap
    | some ad=>exact Src.ofSlice w Tryz.underlying29 ad 0 cap [] (by simp) (fun j u hu=>by simp at hu) (fun u hu=>by cases hu)
   refine wpList_plain hgd fun _ hK=>?_
   have hrun:=run_append_nothing (P:=Tryz.prog) w 29 29 o.type 5 i0 Tryz.underlying29 p1 base n cap' hle _ hsrc;subst e;unfold Oper.wp;have hx':a.eval x=.slice ao 0 cap:=hx;simp[execOp,ho,resolve,invoke,builtin,hs,hx',hrun,Result.andThen];exact hK _ _ (h _ w (by rw[List.append_nil];exact hown) ⟨rfl,rfl,rfl,Nat.le_refl _,fun _ _ _=>rfl⟩ (.inl rfl))
 obtain⟨g,off,rfl,_⟩:=hat 0 p[0] (List.getElem?_eq_getElem h0);refine Ak hgd s x 29 ho 5 i0 (.int .u8 0) 1 1 Tryz.underlying29 p1 p2 p3 p4 rfl (by decide) v n (xs.map bv) hs hown ⟨g,off,none⟩ p.length cap (p.map bv) hx (by simp) (fun j u hu=>?_) (fun u hu=>?_) (by unfold maxLen;omega) (by omega) ?_
 · rw[List.getElem?_map] at hu
   obtain⟨y,hy,rfl⟩:=Option.map_eq_some_iff.1 hu;obtain⟨g',off',e,hc⟩:=hat j y hy;cases e;rw[add_plain];exact hc
 · obtain⟨y,_,rfl⟩:=List.mem_map.1 hu
   rfl
 intro v' w' q1 q2 q3;exact h v' w' (by rw[List.map_append];exact q1) q2 q3
theorem GM {w:World} {base:Nat} {v:Value} {bs:List UInt8} (h:w.ownsRow base 5 1 v bs.length (bs.map bv)) (hl:bs.length≤1000000000000):Bytes w v bs∧∀k,v.ownBlock=some k→base≤k∧k<w.heap.size:=by
 refine⟨?_,fun k hk=>h.lt k hk⟩;rcases h.2 with⟨rfl,h0⟩|⟨g,cap,cur,rfl,h1,h2,h3,h4,h5,h6⟩
 · obtain rfl:bs = []:=List.eq_nil_of_length_eq_zero h0
   exact Bytes.nil w
 refine⟨_,cap,rfl,h3,h4,fun j x hx=>⟨g,0,rfl,?_⟩⟩;rw[Nat.zero_add];exact AH h2 (Dk h6 (by rw[List.getElem?_map,hx];rfl))
section
variable {w : World}
theorem UM {ps:List (List UInt8)} {k:Nat} {p:List UInt8} (h:ps[k]?=some p):(ps.take (k+1)).flatten=(ps.take k).flatten++p:=by
 rw[List.take_add_one,h];simp
def Js (w:World) (bs:List UInt8) (e:Ending) (w':World):Prop:=∃q,e=.returned q∧w'.ownsRow w.heap.size 5 1 q bs.length (bs.map bv)∧Adds w w'
theorem R8 {v:Value} {ps:List (List UInt8)} (hp:Hw w v ps) (hlen:ps.flatten.length≤1000000) (hn:ps.length≤1000) :
 Calls Tryz.prog 100 #[v] w (Js w ps.flatten):=by
 obtain⟨ao,cap,rfl,hat⟩:=hp;obtain⟨n,hnn⟩:∃n,n=ps.length:=⟨_,rfl⟩
 have HP:=(hIq hat (aIq hnn (aIq hlen hn)))
 rw[←hnn];clear hat hnn hlen hn;go_enter Tryz.func100,Tryz.ntmps100;go_wp2_with fail;go_loopg [3,5,8] n (fun g s3 s5 s8 wr=>∃(k nl:Nat) (xs:List UInt8),s8=.int .i64 (k:Nat)∧k+g=n∧xs=(ps.take k).flatten∧nl=xs.length∧wr.ownsRow w.heap.size 5 1 s3 nl (xs.map bv)∧Adds w wr)
 case atStart=>exact⟨0,0,[],rfl,by omega,rfl,rfl,World.ownsRow_nil ..,Ch.refl _ _⟩
 obtain⟨k,nl,xs,rfl,hk,hxs,hnl,hown,hA⟩:=hrel;obtain⟨qo,qc,rfl⟩:=Aj hown;have HS:=(hIq hown hA)
 have HNL:=(hIq hxs hnl)
 have HK:=Lib.hid hk;by_cases hkn:k<n
 · have h1:decide ((k:Int)<(n:Int))=true:=decide_eq_true (by omega)
   have h2:(k:Int)<(n:Int):=by omega
   obtain⟨p,hpk⟩:∃p,ps[k]?=some p:=⟨_,List.getElem?_eq_getElem (by have:=HP.out.2.1;omega)⟩
   obtain⟨g0,off,x,rfl,hc,hb,hbk⟩:=HP.out.1 k p hpk;obtain⟨xo,xc,rfl,_,_⟩:=hb.form;have hcw:=HS.out.2.cell hc id;have hle:=IZ hpk;have hft:=UM hpk;have hwk:wrap64 ((k:Int)+1)=(k:Int)+1:=by have:=HP.out.2;unfold wrap64;omega
   have HX:=(hIq (hb.Af HS.out.2 (fun _ _ h=>h)) (aIq hle hft))
   obtain⟨pl,hpl⟩:∃pl,pl=p.length:=⟨_,rfl⟩
   rw[←hpl] at hcw;have HPL:=Lib.hid hpl;clear hk hown hA hpk hc hb hbk hle hft hxs hnl hpl
   go_wp2_with (first
    | fail
    | (at_builtin;refine ER rfl _ _ rfl (.slice qo nl qc) nl xs rfl (HS.out.1.base (fun _ _=>Nat.zero_le _)) (.slice xo pl xc) p rfl (by rw[HPL.out];exact HX.out.1) (by have:=HX.out.2.1;have:=HP.out.2.2.1;have:=HNL.out.2;rw[HNL.out.1] at this;omega) ?_;intro v' w4 own' grow' loc';have a4:Adds w w4:=HS.out.2.grown grow' (fun k hk=>.inr (HS.out.1.lt k hk).1);have own2:=Gb (b:=w.heap.size) own' (fun k hk=>(HS.out.1.lt k hk).1) HS.out.2.size loc';have H4:=(hIq own2 a4);clear own' grow' loc' a4 own2))
   go_roundg (n-(k+1))
   case measure=>have:=HK.out;omega
   exact⟨k+1,nl+p.length,xs++p,by first|(simp;done)|(simp[hwk];done),by have:=HK.out;omega,by rw[HX.out.2.2,HNL.out.1],by rw[List.length_append,HNL.out.2],H4.out.1,H4.out.2⟩
 obtain rfl:k=n:=by omega
 have h1:decide ((k:Int)<(k:Int))=false:=decide_eq_false (by omega);have h2:¬(k:Int)<(k:Int):=by omega
 have hta:xs=ps.flatten:=by rw[hxs,List.take_of_length_le (by have:=HP.out.2.1;omega)]
 have HTA:=Lib.hid hta;clear hk hown hA hta hxs hnl;go_wp2;go_ret;exact⟨_,rfl,by rw[←HTA.out, ←HNL.out.2];exact HS.out.1,HS.out.2⟩
end
def JD (n:Nat):UInt8:=if n<10 then UInt8.ofNat (48+n) else UInt8.ofNat (87+n)
def QC (bs:List UInt8):List UInt8:=bs.flatMap fun x => [JD (x.toNat / 16),JD (x.toNat % 16)]
theorem St {bs:List UInt8} {k:Nat} {x:UInt8} (h:bs[k]?=some x):QC (bs.take (k+1))=QC (bs.take k) ++ [JD (x.toNat / 16),JD (x.toNat % 16)]:=by
 rw[List.take_add_one,h];unfold QC;rw[List.flatMap_append];rfl
theorem Nu (n:Nat) (h:n<16) (w:World):(Instr.index 9 (.string ⟨#[48,49,50,51,52,53,54,55,56,57,97,98,99,100,101,102]⟩) (.int .u8 (n:Int))).run Tryz.prog w=.ok (bv (JD n)) w:=by
 have h16:n=0∨n=1∨n=2∨n=3∨n=4∨n=5∨n=6∨n=7∨n=8∨n=9∨n=10∨n=11∨n=12∨n=13∨n=14∨n=15:=by omega
 rw[run_index_string w 9 _ .u8 (n:Int) Tryz.underlying9];rcases h16 with rfl|rfl|rfl|rfl|rfl|rfl|rfl|rfl|rfl|rfl|rfl|rfl|rfl|rfl|rfl|rfl<;>rfl
theorem U6 (x:UInt8):bits .and .u8 (x.toNat:Int) 15=((x.toNat % 16:Nat):Int):=by
 have:=u8_and_nat x.toNat 15 x.toNat_lt (by decide);rw[show((15:Nat):Int)=15 from rfl] at this;rw[this,show(15:Nat)=2 ^ 4-1 from rfl,Nat.and_two_pow_sub_one_eq_mod]
theorem PO {P:Program} (w:World) (t e:TypeId) (ie:TypeInfo) (z v u:Value) (hu:P.underlying t=some (.slice e)) (hie:P.info? e=some ie) (hz:ie.zero=some z) (hsmall:ie.size≤65536) (hpos:0<ie.size) (hv:v.cells.size=ie.size) (hu2:u.cells.size=ie.size) :
 (Instr.buildSlice t 2 #[(0,v),(1,u)]).run P w=.ok (.slice (some ⟨w.heap.size,0,none⟩) 2 2) (w.alloc (.cells (v.cells++u.cells) e)):=by
 refine run_buildSlice w t e 2 #[(0,v),(1,u)] (v.cells++u.cells) ie z hu hie hz (by omega) (by omega) ?_
 show Instr.fill _ _ [(0,v),(1,u)]=_
 rw[Ai (off:=0) (size:=ie.size) (by simp) hv (by simp;omega)];rw[Ai (off:=ie.size) (size:=ie.size) (by simp) hu2 (by simp[splice,hv];omega)];simp only[Instr.fill,splice,Option.some.injEq];apply Array.ext';simp[hv,hu2];omega
theorem MK {P:Program} {w:World} {ops:Array Oper} {rest:List Oper} {o:Oper} {a:Act} {Q:Exit→Act→World→Prop} (hgd:o.guard=none) (t:TypeId) (x y:Operand) (ho:o.op=.buildSlice t 2 #[(0,x),(1,y)])
 (e:TypeId) (ie:TypeInfo) (z v u:Value) (hx:a.eval x=v) (hy:a.eval y=u) (hu:P.underlying t=some (.slice e)) (hie:P.info? e=some ie) (hz:ie.zero=some z) (hsmall:ie.size≤65536) (hpos:0<ie.size) (hv:v.cells.size=ie.size) (hu2:u.cells.size=ie.size)
 (h:wpList P ops Q rest (a.put o.dst (.slice (some ⟨w.heap.size,0,none⟩) 2 2)) (w.alloc (.cells (v.cells++u.cells) e))):wpList P ops Q (o::rest) a w :=
 wpList_plain hgd fun _ hK=>by
  unfold Oper.wp execOp;have:=PO w t e ie z v u hu hie hz hsmall hpos hv hu2;simp only[ho,List.map_toArray,List.map_cons,List.map_nil,hx,hy,Sem.run_bind,this,Result.andThen_ok];exact hK _ _ h
theorem Uq:BP (QC Tag.CJ)=⟨#[54,101,51,52,48,98,57,99,102,102,98,51,55,97,57,56,57,99,97,53,52,52,101,54,98,98,55,56,48,97,50,99,55,56,57,48,49,100,51,102,98,51,51,55,51,56,55,54,56,53,49,49,97,51,48,54,49,55,97,102,97,48,49,100]⟩:=by
 rw[Tag.J9];rfl
theorem ZK {w:World} {v:Value} {bs:List UInt8} (hb:Bytes w v bs) (h0:bs ≠ []) (hl:bs.length≤1000):Calls Tryz.prog 54 #[v] w fun e w'=>e=.returned (.string (BP (QC bs)))∧Adds w w':=by
 obtain⟨ao,cap,rfl,_,_,hat⟩:=hb;obtain⟨n,hn⟩:∃n,n=bs.length:=⟨_,rfl⟩
 have hn0:0<n:=by rw[hn];exact List.length_pos_iff.2 h0
 obtain⟨i0,p1,p2,p3,p4⟩:=Pk
 have hmk:∀w:World,(Instr.makeSlice 29 (.int .i64 0) (.int .i64 (2*(n:Int)))).run Tryz.prog w=.ok (.slice (some ⟨w.heap.size,0,none⟩) 0 (2*n)) (w.alloc (.cells (madeCells #[.int .u8 0] (2*n)) 5)):=fun w=>by
  have:=run_make (P:=Tryz.prog) w 29 5 i0 (.int .u8 0) Tryz.underlying29 p1 p2 .i64 .i64 0 (2*(n:Int)) (by omega) (by omega) (by rw[p4];omega) (by omega);rw[this,p3,Nat.mul_one,show(2*(n:Int)).toNat=2*n by omega];rfl
 obtain⟨MC,hMC⟩:∃MC,MC=madeCells #[Value.int .u8 0] (2*n):=⟨_,rfl⟩
 have hms:MC.size=2*n:=by rw[hMC,size_madeCells]
 rw[←hMC] at hmk;have hw2:IntKind.i64.wrap (2*(n:Int))=2*(n:Int):=IntWalk.i64_in _ (by omega);have hz:((n:Int) == 0)=false:=by simpa using (show ¬(n:Int)=0 by omega)
 have HM:=Lib.hid hms;have HI:=(hIq p1 (aIq p2 (aIq p3 p4)))
 have HAT:=(hIq hat (aIq hn hl))
 obtain⟨S,hS⟩:∃S,S=BP (QC bs):=⟨_,rfl⟩
 have HSS:=Lib.hid hS;rw[←hn, ←hS];rw[←hn] at hl;clear hS;clear hMC hms hat hn p1 p2 p3 p4;go_enter Tryz.func54,Tryz.ntmps54;go_wp2_with fail;refine BJ (fun w2 hw2'=>?_);have a2:Adds w w2:=by rw[hw2'];exact(Ch.refl _ _).alloc _
 have o2:w2.ownsRow w.heap.size 5 1 (.slice (some ⟨w.heap.size,0,none⟩) 0 (2*n)) 0 []:=by
  rw[hw2'];exact⟨by simp,.inr ⟨w.heap.size,2*n,MC,rfl,Nat.le_refl _,heap_alloc_new _ _,Nat.zero_le _,by unfold maxLen;omega,by rw[HM.out,Nat.mul_one],by simp⟩⟩
 have H2:=(hIq a2 o2)
 clear a2 o2 hw2' hmk;go_loopg [3,5,15] n (fun g s3 s5 s15 wr=>∃(k:Nat) (xs:List UInt8),s15=.int .i64 (k:Nat)∧k+g=n∧xs=QC (bs.take k)∧xs.length=2*k∧wr.ownsRow w.heap.size 5 1 s3 (2*k) (xs.map bv)∧Adds w wr)
 case atStart=>exact⟨0,[],rfl,by omega,rfl,rfl,H2.out.2,H2.out.1⟩
 obtain⟨k,xs,rfl,hk,hxs,hxl,hown,hA⟩:=hrel;obtain⟨qo,qc,rfl⟩:=Aj hown;have HS:=(hIq hown (aIq hA (aIq hxs (aIq hxl hk))))
 by_cases hkn:k<n
 · have h1:decide ((k:Int)<(n:Int))=true:=decide_eq_true (by omega)
   have h2:(k:Int)<(n:Int):=by omega
   have hwk:wrap64 ((k:Int)+1)=(k:Int)+1:=by unfold wrap64;omega
   obtain⟨x,hx⟩:∃x,bs[k]?=some x:=⟨_,List.getElem?_eq_getElem (by have:=HAT.out.2.1;omega)⟩
   obtain⟨g0,off,rfl,hc⟩:=HAT.out.1 k x hx;have hcw:=hA.cell hc id;have hst:=St hx;rw[←hxs] at hst;obtain⟨hi,hhi⟩:∃m,m=x.toNat / 16:=⟨_,rfl⟩
   obtain⟨lo,hlo⟩:∃m,m=x.toNat % 16:=⟨_,rfl⟩
   have hx256:=x.toNat_lt;have hq:=fun w=>Nu hi (by omega) w
   have hr:=fun w=>Nu lo (by omega) w
   have hand:=U6 x;rw[←hlo] at hand;have hdiv:(x.toNat:Int) / 16=(hi:Int):=by omega
   obtain⟨xi,hxi⟩:∃xi:Int,xi=x.toNat:=⟨_,rfl⟩
   rw[←hhi, ←hlo] at hst;obtain⟨d1,hd1⟩:∃d,d=JD hi:=⟨_,rfl⟩
   obtain⟨d2,hd2⟩:∃d,d=JD lo:=⟨_,rfl⟩
   rw[←hd1] at hq hst;rw[←hd2] at hr hst;have hcw':wr.cell? ⟨g0,off+k,none⟩=some (.int .u8 xi):=by rw[hxi];exact hcw
   rw[←hxi] at hand hdiv;have HX:=(hIq hq (aIq hr (aIq hst (aIq hand hdiv))))
   clear hk hown hA hxs hxl hx hc hcw hst hq hr hand hdiv hxi hhi hlo hd1 hd2 hx256;go_wp2_with fail;refine AO (fun w0=>True) 9 [(0,false),(1,false),(2,false),(3,false),(4,false),(5,false),(6,false),(7,true),(8,true)] (by kernel_rfl) (by kernel_rfl) ?_ ?_
   · trivial
   iterate 2
    iterate 1 refine plan_look rfl rfl (fun w0 hS=>(by go_simp;try rfl)) ?_
    simp only[Act.put,nAq,nBq,nCq]
   refine plan_look (v:=.int .u8 (hi:Nat)) rfl rfl (fun w0 hS=>(by clear hS;have h9:=HX.out.2.2.2.2;go_simp;try simp[h9])) ?_;simp only[Act.put,nAq,nBq,nCq];refine plan_look (v:=bv d1) rfl rfl (fun w0 hS=>(by clear hS;have h9:=HX.out.1 w0;go_simp;try simp[h9])) ?_;simp only[Act.put,nAq,nBq,nCq]
   iterate 1 refine plan_look rfl rfl (fun w0 hS=>(by go_simp;try rfl)) ?_
   simp only[Act.put,nAq,nBq,nCq];refine plan_look (v:=.int .u8 (lo:Nat)) rfl rfl (fun w0 hS=>(by clear hS;have h9:=HX.out.2.2.2.1;go_simp;try simp[h9])) ?_;simp only[Act.put,nAq,nBq,nCq];refine plan_look (v:=bv d2) rfl rfl (fun w0 hS=>(by clear hS;have h9:=HX.out.2.1 w0;go_simp;try simp[h9])) ?_;simp only[Act.put,nAq,nBq,nCq];refine AV rfl ?_
   go_wp2_with (first
    | fail
    | ((with_reducible show zOq (.buildSlice 29 _ _));refine MK rfl 29 _ _ rfl 5 i0 (.int .u8 0) (bv d1) (bv d2) rfl rfl Tryz.underlying29 HI.out.1 HI.out.2.1 (by rw[HI.out.2.2.1];decide) (by rw[HI.out.2.2.1];decide) (by rw[HI.out.2.2.1];rfl) (by rw[HI.out.2.2.1];rfl) ?_))
   refine⟨trivial,?_⟩;refine AV rfl ?_
   have hnb:Bytes (wr.drew.alloc (.cells ((bv d1).cells++(bv d2).cells) 5)) (.slice (some ⟨wr.heap.size,0,none⟩) 2 2) [d1,d2]:=by
    rw[show(bv d1).cells++(bv d2).cells=AK [d1,d2] from rfl];exact Bytes.row (bs := [d1,d2]) (heap_alloc_new _ _) (by simp) (by unfold maxLen;omega)
   have HNB:=Lib.hid hnb;clear hnb
   go_wp2_with (first
    | fail
    | (at_builtin;refine ER rfl _ _ rfl (.slice qo (2*k) qc) (2*k) xs rfl ((((Ch.refl (fun _=>False) wr).drew.alloc _).owns HS.out.1 (fun _ _ h=>h)).base (fun _ _=>Nat.zero_le _)) (.slice (some ⟨wr.heap.size,0,none⟩) 2 2) [d1,d2] rfl HNB.out (by simp;omega) ?_;intro v' w4 own' grow' loc';have a4:Adds w w4:=(HS.out.2.1.drew.alloc _).grown grow' (fun k hk=>.inr (HS.out.1.lt k hk).1);have own2:=Gb (b:=w.heap.size) own' (fun k hk=>(HS.out.1.lt k hk).1) (HS.out.2.1.drew.alloc _).size loc';obtain⟨no,nc,rfl⟩:=Aj own';have H4:=(hIq own2 a4);clear own' grow' loc' a4 own2))
   refine⟨trivial,?_⟩;refine AZ ?_;simp only[List.drop_succ_cons,List.drop_zero];go_wp2;refine NoPanic.normal ?_;go_wp2_with fail;go_roundg (n-(k+1))
   case measure=>have:=HS.out.2.2.2.2;omega
   exact⟨k+1,xs ++ [d1,d2],by first|(simp;done)|(simp[hwk];done),by omega,HX.out.2.2.1.symm,by rw[List.length_append,HS.out.2.2.2.1];rfl,H4.out.1,H4.out.2⟩
 obtain rfl:k=n:=by omega
 have h1:decide ((k:Int)<(k:Int))=false:=decide_eq_false (by omega);have h2:¬(k:Int)<(k:Int):=by omega
 have hta:xs=QC bs:=by rw[hxs,List.take_of_length_le (by have:=HAT.out.2.1;omega)]
 have hby:=(GM (bs:=xs) (by rw[hxl];exact hown) (by rw[hxl];omega)).1;have hcv:=DM hby;rw[hta, ←HSS.out] at hcv;clear hk hown hA hxs hxl hta hby;go_wp2;go_ret;exact⟨rfl,HS.out.2.1⟩
end Go.Proofs.YtngbdbpofifimaaGreat.Store

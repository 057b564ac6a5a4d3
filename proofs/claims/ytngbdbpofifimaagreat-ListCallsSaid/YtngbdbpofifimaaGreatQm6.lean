/- Laws of the layers below. -/
import Derived.Test.YtngbdbpofifimaaGreatQm5
set_option maxHeartbeats 3200000
set_option maxRecDepth 100000
set_option linter.unusedVariables false
namespace Go.Proofs.YtngbdbpofifimaaGreat.ShaW
open Go.RowKit
def stc (h:List UInt32) (bl:List UInt8) (n all:Nat):Array Value:=(.bool true::(h.map wv++(bl.map bv ++ [.int .i64 (n:Nat),.int .i64 (all:Nat)]))).toArray
def Nt (w:World) (a:Nat) (h:List UInt32) (bl:List UInt8) (n all:Nat):Prop:=w.heap[a]?=some (.cells (stc h bl n all) 337 (0,0))
def EA (w:World) (a:Nat) (txt:List UInt8):Prop :=
 ∃bl,bl.length=64∧bl.take (txt.length % 64)=Sha.rest txt∧Nt w a (Sha.words txt) bl (txt.length % 64) txt.length
section
variable {h : List UInt32} {bl : List UInt8} {n all : Nat} (hh : h.length=8) (hb : bl.length=64)
include hh hb
theorem Fz:(stc h bl n all).size=75:=by simp[stc,hh,hb]
theorem Pt:(stc h bl n all)[73]?=some (.int .i64 (n:Nat)):=by
 simp only[stc,List.getElem?_toArray,List.getElem?_cons_succ];rw[List.getElem?_append_right (by simp[hh]),List.getElem?_append_right (by simp[hh,hb])];simp[hh,hb]
theorem Po:(stc h bl n all)[74]?=some (.int .i64 (all:Nat)):=by
 simp only[stc,List.getElem?_toArray,List.getElem?_cons_succ];rw[List.getElem?_append_right (by simp[hh]),List.getElem?_append_right (by simp[hh,hb])];simp[hh,hb]
theorem Il (m:Nat):(stc h bl n all).setIfInBounds 73 (.int .i64 (m:Nat))=stc h bl m all:=by
 apply Array.ext';simp only[stc,Array.toList_setIfInBounds,List.set_cons_succ];rw[List.set_append_right _ _ (by simp[hh]),List.set_append_right _ _ (by simp[hh,hb])];simp[hh,hb]
theorem M8 (m:Nat):(stc h bl n all).setIfInBounds 74 (.int .i64 (m:Nat))=stc h bl n m:=by
 apply Array.ext';simp only[stc,Array.toList_setIfInBounds,List.set_cons_succ];rw[List.set_append_right _ _ (by simp[hh]),List.set_append_right _ _ (by simp[hh,hb])];simp[hh,hb]
theorem VW:(stc h bl n all).extract 1 9=B6 h:=by
 have _:=hb;apply Array.ext';simp only[stc,Array.toList_extract,List.extract,List.drop_succ_cons,List.drop_zero,B6];rw[List.take_append_of_le_length (by simp[hh]),List.take_of_length_le (by simp[hh])]
theorem VX:(stc h bl n all).extract 9 73=AS bl:=by
 apply Array.ext';simp only[stc,Array.toList_extract,List.extract,List.drop_succ_cons,AS];rw[List.drop_append,List.drop_eq_nil_of_le (by simp[hh]),List.nil_append];simp only[List.length_map,hh,Nat.sub_self,List.drop_zero];rw[List.take_append_of_le_length (by simp[hb]),List.take_of_length_le (by simp[hb])]
theorem MD (h':List UInt32) (hh':h'.length=8):(splice (stc h bl n all).toList 1 (B6 h').toList).toArray=stc h' bl n all:=by
 have _:=hb;apply Array.ext';simp only[stc,splice,B6,List.take_succ_cons,List.take_zero,List.length_map,hh'];rw[show 1+8=8+1 by rfl,List.drop_succ_cons,List.drop_append,List.drop_eq_nil_of_le (by simp[hh])];simp[hh]
theorem L5 (cs:List UInt8) (hn:n+cs.length≤64):((stc h bl n all).toList.take (9+n)++(cs.map bv++(stc h bl n all).toList.drop (9+n+cs.length))).toArray=stc h (bl.take n++cs++bl.drop (n+cs.length)) n all:=by
 apply Array.ext';simp only[stc];rw[show 9+n=(8+n)+1 by omega,show 8+n+1+cs.length=(8+n+cs.length)+1 by omega,List.take_succ_cons,List.drop_succ_cons]
 have e1:((h.map wv)++(bl.map bv ++ [Value.int .i64 (n:Nat),.int .i64 (all:Nat)])).take (8+n)=h.map wv++(bl.take n).map bv:=by
  rw[List.take_append,List.take_of_length_le (by simp[hh]),List.length_map,hh,show 8+n-8=n by omega,List.take_append_of_le_length (by simp[hb];omega),List.map_take]
 have e2:((h.map wv)++(bl.map bv ++ [Value.int .i64 (n:Nat),.int .i64 (all:Nat)])).drop (8+n+cs.length)=(bl.drop (n+cs.length)).map bv ++ [Value.int .i64 (n:Nat),.int .i64 (all:Nat)]:=by
  rw[List.drop_append,List.drop_eq_nil_of_le (by simp[hh];omega),List.nil_append,List.length_map,hh,show 8+n+cs.length-8=n+cs.length by omega,List.drop_append_of_le_length (by simp[hb];omega),List.map_drop]
 rw[e1,e2];simp
end
theorem An {w:World} {a:Nat} (h:w.cell? ⟨a,0,none⟩=some (.bool true)) :
 Calls Tryz.prog 246 #[.pointer (some ⟨a,0,none⟩)] w fun e w'=>e=.returned (.bool false)∧w=w':=by
 go_enter Tryz.func246,Tryz.ntmps246;go_wp2;go_ret;exact⟨rfl,rfl⟩
theorem Jn {h:List UInt32} {bl:List UInt8} {n all:Nat}:(stc h bl n all)[0]?=some (.bool true):=rfl
theorem Jf {so:Option Addr} {m cp k a:Nat} (h:∀b,(Value.slice so m cp).ownBlock=some b→b≠a):∀b,(Value.slice (adv so cp k) (m-k) (cp-k)).ownBlock=some b→b≠a:=fun b hb=>by
 obtain⟨n',c',h'⟩:=QC hb;refine h b ?_;cases so<;>exact h'
theorem E7 {w:World} {a:Nat} {txt bs:List UInt8} {v:Value} (hs:EA w a txt) (hb:Bytes w v bs) (hne:bs ≠ []→∀k,v.ownBlock=some k→k≠a) (hlen:txt.length+bs.length≤1125899906842624) :
 Calls Tryz.prog 199 #[.pointer (some ⟨a,0,none⟩),v] w fun e w'=>e=.returned (.int .i64 bs.length)∧EA w' a (txt++bs)∧Ch (fun k=>k=a) w w':=by
 obtain⟨bl,hbl,hrest,hst⟩:=hs;have hwl:=Sha.Ca txt;have c0:=AH hst Jn;have c74:=AH hst (Po hwl hbl);have f74:=Ai hst 74;have l0:=Ad hst;obtain⟨ao,cap,rfl,hcap,hcm⟩:=hb.form;have HB:=Lib.hid hb;have HNE:=Lib.hid hne;have HST:=(hIq hbl (aIq hrest hst))
 have HWL:=Lib.hid hwl;have hlt:(txt.length:Int)+(bs.length:Int)≤1125899906842624:=by omega
 have HL:=Lib.hid hlen;unfold maxLen at hcm;clear hb hne hbl hrest hst hwl hlen;go_enter Tryz.func199,Tryz.ntmps199;go_wp2_with fail;refine(An c0).mono ?_;rintro e w1 ⟨rfl,rfl⟩;go_wp2;have hch0:Ch (fun k=>k=a) w (w.setCell ⟨a,74,none⟩ (.int .i64 ((txt.length:Int)+(bs.length:Int)))):=(Ch.refl (fun k=>k=a) w).setCell (p:=⟨a,74,none⟩) (.inl rfl) _;have hb0:=HB.out.TZ hch0 HNE.out
 have hst0:Nt (w.setCell ⟨a,74,none⟩ (.int .i64 ((txt.length:Int)+(bs.length:Int)))) a (Sha.words txt) bl (txt.length % 64) (txt.length+bs.length):=by
  have:=AV HST.out.2.2 74 (.int .i64 ((txt.length+bs.length:Nat):Int));rw[M8 HWL.out HST.out.1] at this;exact this
 obtain⟨wa,hwa⟩:∃wa,wa=w.setCell ⟨a,74,none⟩ (.int .i64 ((txt.length:Int)+(bs.length:Int))):=⟨_,rfl⟩
 rw[←hwa] at hch0 hb0 hst0 ⊢;have HC0:=Lib.hid hch0;have HB0:=Lib.hid hb0;have HS0:=Lib.hid hst0;clear hch0 hb0 hst0 hwa c0 c74 f74 l0
 go_loopg [5] bs.length (fun g s5 wr=>∃(j m:Nat) (so:Option Addr) (cp:Nat) (bl':List UInt8),j+m=bs.length∧m=g∧s5=.slice so m cp∧Bytes wr (.slice so m cp) (bs.drop j)∧(m≠0→∀k,(Value.slice so m cp).ownBlock=some k→k≠a) ∧
  bl'.length=64∧bl'.take ((txt++bs.take j).length % 64)=Sha.rest (txt++bs.take j)∧Nt wr a (Sha.words (txt++bs.take j)) bl' ((txt++bs.take j).length % 64) (txt.length+bs.length)∧Ch (fun k=>k=a) w wr)
 case atStart =>
  refine⟨0,bs.length,ao,cap,bl,by omega,rfl,rfl,by simpa using HB0.out,fun h=>HNE.out (fun e=>h (by rw[e];rfl)),HST.out.1,?_,?_,HC0.out⟩
  · simpa using HST.out.2.1
  simpa using HS0.out
 obtain⟨j,m,so,cp,bl',hjm,rfl,rfl,hby,hne,hbl,hrest,hst,hch⟩:=hrel;by_cases hm:0<m
 · obtain⟨t',ht'⟩:∃t',t'=txt++bs.take j:=⟨_,rfl⟩
   rw[←ht'] at hrest hst;obtain⟨n,hn⟩:∃n,n=t'.length % 64:=⟨_,rfl⟩
   have hn63:n≤63:=by omega
   rw[←hn] at hrest hst;obtain⟨k,hk⟩:∃k,k=Nat.min m (64-n):=⟨_,rfl⟩
   have hk1:1≤k:=by rw[hk];exact Nat.le_min.2 ⟨hm,by omega⟩
   have hkg:k≤m:=by rw[hk];exact Nat.min_le_left _ _
   have hkn:n+k≤64:=by
    have:k≤64-n:=by rw[hk];exact Nat.min_le_right _ _
    omega
   obtain⟨ch,hcs⟩:∃ch,ch=(bs.drop j).take k:=⟨_,rfl⟩
   have hcl:ch.length=k:=by rw[hcs,List.length_take,List.length_drop];omega
   have hwl:=Sha.Ca t';have c73:=AH hst (Pt hwl hbl);obtain⟨hbl0,hbc⟩:=hby.at;obtain⟨x0,hx0⟩:∃x0,(bs.drop j)[0]?=some x0:=⟨_,List.getElem?_eq_getElem (by rw[List.length_drop];omega)⟩
   obtain⟨gs,off,rfl,_⟩:=hbc 0 x0 hx0
   have hsrc:∀i v,(ch.map bv)[i]?=some v→wr.cell? ((⟨gs,off,none⟩:Addr).add i)=some v:=fun i v hv=>by
    rw[List.getElem?_map] at hv;obtain⟨x,hx,rfl⟩:=Option.map_eq_some_iff.1 hv;have hil:=(List.getElem?_eq_some_iff.1 hx).1;rw[hcs,List.getElem?_take_of_lt (by omega)] at hx;obtain⟨g',o',he,hc⟩:=hbc i x hx;cases he;rw[add_plain];exact hc
   have hgl:(0:Int)<(m:Int):=by omega
   have hn63':(n:Int)≤63:=by omega
   have hn64:decide (64=n)=false:=by simp;omega
   have hcpb:m≤cp:=by obtain⟨_,_,he,h1,_⟩:=hby;cases he;omega
   have BY:=Lib.hid hby;have NE:=Lib.hid (hne (by omega));have BL:=Lib.hid hbl;have RE:=Lib.hid hrest;have ST:=Lib.hid hst;have CH:=Lib.hid hch;have SRC:=Lib.hid hsrc;have WL:=Lib.hid hwl;have CS:=(hIq hcs hcl)
   have KK:=Lib.hid hk;have NN:=(hIq hn ht')
   have HJ:=Lib.hid hjm;clear hby hne hbl hrest hst hch hsrc hwl hcs hcl hk hn ht' hjm hbl0 hbc hx0
   have hsl:∀w0:World,(Instr.sliceAt 335 (.pointer (some ⟨a,9,none⟩)) (some (.int .i64 (n:Int))) none none).run Tryz.prog w0=.ok (.slice (some ⟨a,9+n,none⟩) (64-n) (64-n)) w0:=fun w0 =>
    run_arr_l w0 335 64 (by kernel_rfl) (by kernel_rfl) (by kernel_rfl) a 9 n .i64 (by omega)
   go_wp2;refine AP (fun w0=>w0=(wr).drew) 9 [(0,false),(1,false),(2,false),(3,false),(4,false),(5,false),(6,false),(7,false),(8,false)] (by kernel_rfl) (by kernel_rfl) rfl ?_
   iterate 9 refine plan_look rfl rfl (fun w0 hS=>(by subst hS;go_simp;try rfl)) ?_
   refine AZ ?_;simp only[List.drop_succ_cons,List.drop_zero,Act.put,List.setIfInBounds_toArray,List.set_cons_succ,List.set_cons_zero]
   have hnew:(((stc (Sha.words t') bl' n (txt.length+bs.length)).toList.take (9+n))++(ch.map bv++(stc (Sha.words t') bl' n (txt.length+bs.length)).toList.drop (9+n+k))).toArray=stc (Sha.words t') (bl'.take n++ch++bl'.drop (n+k)) n (txt.length+bs.length):=by
    rw[←CS.out.2];exact L5 WL.out BL.out ch (by rw[CS.out.2];exact hkn)
   refine Dk rfl (.tmp 29) (.tmp 30) 29 29 rfl 5 Tryz.underlying29 (by kernel_rfl) a (9+n) (64-n) (64-n) ⟨gs,off,none⟩ m cp rfl rfl (stc (Sha.words t') bl' n (txt.length+bs.length)) _ (AM ST.out) (ch.map bv) k (by rw[List.length_map];exact CS.out.2) KK.out SRC.out (by rw[Fz WL.out BL.out];omega) (DI _) _ hnew ?_;clear hnew hsl;obtain⟨bl2,hbl2⟩:∃bl2,bl2=bl'.take n++ch++bl'.drop (n+k):=⟨_,rfl⟩
   rw[←hbl2];have hbl2l:bl2.length=64:=by rw[hbl2];simp[BL.out,CS.out.2];omega
   obtain⟨w2,hw2⟩:∃w2,w2=wr.drew.setRow a (stc (Sha.words t') bl2 n (txt.length+bs.length)):=⟨_,rfl⟩
   rw[←hw2];have hst2:Nt w2 a (Sha.words t') bl2 n (txt.length+bs.length):=by rw[hw2];exact AK (AM ST.out) _
   have hch2:Ch (fun k=>k=a) wr w2:=by rw[hw2];exact((Ch.refl (fun k=>k=a) wr).drew).setRow (.inl rfl) _
   have c73':=AH hst2 (Pt WL.out hbl2l);have f73:=Ai hst2 73;have l73:=Ad hst2;have hk64:(k:Int)≤64:=by omega
   have hkm:(k:Int)≤(m:Int):=by omega
   have BL2:=(hIq hbl2 hbl2l)
   have ST2:=Lib.hid hst2;have CH2:=Lib.hid hch2;clear hbl2 hbl2l hst2 hch2 hw2 c73;obtain⟨so2,hso2⟩:∃so2,so2=adv (some ⟨gs,off,none⟩) cp k:=⟨_,rfl⟩
   have hsa:∀w0:World,(Instr.sliceAt 29 (.slice (some ⟨gs,off,none⟩) m cp) (some (.int .i64 (k:Int))) none none).run Tryz.prog w0=.ok (.slice so2 (m-k) (cp-k)) w0:=fun w0=>by
    rw[hso2];exact Gp w0 29 (by kernel_rfl) (by kernel_rfl) _ m cp k .i64 hkg
   have HSO:=Lib.hid hso2;clear hso2;by_cases hf:n+k=64
   · have hfb:(((n:Int)+(k:Int)) == 64)=true:=by simp;omega
     have HF:=Lib.hid hf;clear hf;go_wp2;refine NoPanic.normal ?_;go_wp2
     have hst3:Nt (w2.setCell ⟨a,73,none⟩ (.int .i64 ((n:Int)+(k:Int)))) a (Sha.words t') bl2 64 (txt.length+bs.length):=by
      have:=AV ST2.out 73 (.int .i64 ((n+k:Nat):Int));rw[Il WL.out BL2.out.2,HF.out] at this;rw[←HF.out] at this ⊢;exact this
     have hch3:Ch (fun k=>k=a) wr (w2.setCell ⟨a,73,none⟩ (.int .i64 ((n:Int)+(k:Int)))):=CH2.out.setCell (p:=⟨a,73,none⟩) (.inl rfl) _;obtain⟨w3,hw3⟩:∃w3,w3=w2.setCell ⟨a,73,none⟩ (.int .i64 ((n:Int)+(k:Int))):=⟨_,rfl⟩
     rw[←hw3] at hst3 hch3 ⊢;obtain⟨R,hR⟩:∃R,R=stc (Sha.words t') bl2 64 (txt.length+bs.length):=⟨_,rfl⟩
     have hRs:R.size=75:=by rw[hR];exact Fz WL.out BL2.out.2
     have hRh:R.extract 1 (1+8)=B6 (Sha.words t'):=by rw[hR];exact VW WL.out BL2.out.2
     have hRb:R.extract 9 (9+64)=AS bl2:=by rw[hR];exact VX WL.out BL2.out.2
     have hS0:w3.drew.heap[a]?=some (.cells R 337 (0,0)):=by rw[hR];exact hst3
     have CH3:=Lib.hid hch3;have HR:=(hIq hR (aIq hRs (aIq hRh hRb)))
     clear hst3 hch3 hw3 hR hRs hRh hRb c73' f73 l73;refine AP (fun w0=>∃h':List UInt32,h'.length=8∧w0.heap[a]?=some (.cells (stc h' bl2 64 (txt.length+bs.length)) 337 (0,0))) 14 [(0,false),(1,false),(2,false),(3,false),(4,false),(6,false),(7,false),(8,false),(9,false),(5,true),(10,true),(11,false),(12,false),(13,true)] (by kernel_rfl) (by kernel_rfl) ?_ ?_
     · exact⟨_,WL.out,by rw[←HR.out.1];exact hS0⟩
     iterate 8 refine plan_look rfl rfl (fun w0 hS=>(by go_simp;try rfl)) ?_
     simp only[Act.put,nAq,nBq,nCq];refine plan_look (v:=.agg (AS bl2)) rfl rfl (fun w0 hS=>?_) ?_
     · obtain⟨h',hh',hg'⟩:=hS
       unfold execOp;simp only[Sem.run_bind,Sem.run_pure,Instr.loadAt];rw[show Act.eval _ _=Value.pointer (some ⟨a,9,none⟩) from rfl];simp only[Instr.sureAddr,Sem.run_pure,Result.andThen_ok];rw[BU w0 hg' Tryz.underlying335 rfl Pb (by rw[Fz hh' BL2.out.2];omega)];rw[show(stc h' bl2 64 (txt.length+bs.length)).extract 9 (9+64)=AS bl2 from VX hh' BL2.out.2];rfl
     simp only[Act.put,nAq,nBq,nCq];refine AW rfl ?_;refine AJ rfl 333 (.tmp 52) rfl a 1 rfl hS0 Tryz.underlying333 rfl Ic (by rw[HR.out.2.1];omega) _ HR.out.2.2.1 ?_;refine wpList_nil ?_;change _∧_;refine⟨⟨_,WL.out,by rw[←HR.out.1];exact hS0⟩,?_⟩;simp only[Act.put,nAq,nBq,nCq];refine AW rfl ?_;go_wp2_with fail;refine(U2 _ WL.out _ BL2.out.2 _).mono ?_;rintro e w5 ⟨rfl,hc5⟩;dsimp only;go_step;refine wpList_nil ?_;change _∧_;have hS5:w5.heap[a]?=some (.cells R 337 (0,0)):=hc5.row hS0 id;refine⟨⟨_,WL.out,by rw[←HR.out.1];exact hS5⟩,?_⟩
     iterate 2 refine plan_look rfl rfl (fun w0 hS=>(by go_simp;try rfl)) ?_
     refine AW rfl ?_;have hR2:(splice R.toList 1 (B6 (Sha.step (Sha.words t') bl2)).toList).toArray=stc (Sha.step (Sha.words t') bl2) bl2 64 (txt.length+bs.length):=by rw[HR.out.1];exact MD WL.out BL2.out.2 _ (Sha.Es _ _ WL.out)
     have hSl:=Sha.Es (Sha.words t') bl2 WL.out;obtain⟨h6,hh6⟩:∃h6,h6=Sha.step (Sha.words t') bl2:=⟨_,rfl⟩
     rw[←hh6] at hR2 hSl ⊢;simp only[Act.put,nAq,nBq,nCq];refine AI rfl 333 (.tmp 60) (.tmp 58) rfl a 1 (B6 h6) rfl rfl hS5 (by rw[Ic,Cy,hSl]) (by rw[Cy,hSl,HR.out.2.1];omega) (EX _) _ hR2 ?_;refine wpList_nil ?_;change _∧_;refine⟨⟨_,hSl,AK hS5 _⟩,?_⟩;refine AZ ?_;simp only[List.drop_succ_cons,List.drop_zero];have hst6:Nt (w5.setRow a (stc h6 bl2 64 (txt.length+bs.length))) a h6 bl2 64 (txt.length+bs.length):=AK hS5 _;have hch6:Ch (fun k=>k=a) w3 (w5.setRow a (stc h6 bl2 64 (txt.length+bs.length))):=(((Ch.refl (fun k=>k=a) w3).drew.trans hc5 (fun _=>fEq))).setRow (.inl rfl) _;obtain⟨w6,hw6⟩:∃w6,w6=w5.setRow a (stc h6 bl2 64 (txt.length+bs.length)):=⟨_,rfl⟩
     rw[←hw6] at hst6 hch6 ⊢;have c73:=AH hst6 (Pt hSl BL2.out.2);have f73:=Ai hst6 73;have l73:=Ad hst6;have ST6:=Lib.hid hst6;have CH6:=Lib.hid hch6;have H6:=(hIq hh6 hSl)
     clear hst6 hch6 hh6 hSl hR2 hS5 hc5 hw6 hS0;go_wp2;refine NoPanic.normal ?_;go_wp2;go_roundg (m-k)
     case measure=>omega
     have hchA:Ch (fun k=>k=a) wr (w6.setCell ⟨a,73,none⟩ (.int .i64 0)):=(CH3.out.Bj CH6.out).setCell (p:=⟨a,73,none⟩) (.inl rfl) _;have htk:txt++bs.take (j+k)=t'++ch:=by rw[NN.out.2,CS.out.1,List.append_assoc, ←List.take_add]
     have hgr:=Sha.RA (l:=t') (m:=ch) (by rw[←NN.out.1,CS.out.2];exact HF.out);have hb2:bl2=Sha.rest t'++ch:=by rw[BL2.out.1,RE.out,List.drop_eq_nil_of_le (by rw[BL.out,HF.out];exact Nat.le_refl _),List.append_nil]
     have hmod:(t'++ch).length % 64=0:=by have:=NN.out.1;have:=HF.out;rw[List.length_append,CS.out.2];omega
     refine⟨j+k,m-k,so2,cp-k,bl2,by have:=HJ.out;omega,rfl,rfl,?_,?_,BL2.out.2,?_,?_,CH.out.Bj hchA⟩
     · have:=((BY.out.drop hkg).Ae hchA (Jf NE.out))
       rw[HSO.out]
       rwa [List.drop_drop] at this
     · rw[HSO.out];exact fun _=>Jf NE.out
     · rw[htk,hgr.2,hmod,List.take_zero]
     rw[htk,hgr.1,hmod];have:=AV ST6.out 73 (.int .i64 ((0:Nat):Int));rw[Il H6.out.2 BL2.out.2,H6.out.1,hb2] at this;rw[hb2];exact this
   have hkm':k=m:=by
    have:=KK.out;rcases Nat.le_total m (64-n) with h|h
    · rw[this];exact Nat.min_eq_left h
    exact absurd (by rw[this,show Nat.min m (64-n)=64-n from Nat.min_eq_right h];omega) hf
   have hlt64:n+k<64:=by omega
   have hfb:(((n:Int)+(k:Int)) == 64)=false:=by simp;omega
   have HF:=(hIq hkm' hlt64)
   clear hf hkm' hlt64;go_wp2;refine NoPanic.normal ?_;go_wp2;go_roundg (m-k)
   case measure=>omega
   have hchA:Ch (fun k=>k=a) wr (w2.setCell ⟨a,73,none⟩ (.int .i64 ((n:Int)+(k:Int)))):=CH2.out.setCell (p:=⟨a,73,none⟩) (.inl rfl) _;have htk:txt++bs.take (j+k)=t'++ch:=by rw[NN.out.2,CS.out.1,List.append_assoc, ←List.take_add]
   have hgr:=Sha.VA (l:=t') (m:=ch) (by rw[←NN.out.1,CS.out.2];exact HF.out.2);have hmod:(t'++ch).length % 64=n+k:=by have:=NN.out.1;have:=HF.out.2;rw[List.length_append,CS.out.2];omega
   have hb2:bl2.take (n+k)=Sha.rest t'++ch:=by
    rw[BL2.out.1,RE.out,List.take_append_of_le_length (by rw[List.length_append,Sha.JI, ←NN.out.1,CS.out.2];exact Nat.le_refl _),List.take_of_length_le (by rw[List.length_append,Sha.JI, ←NN.out.1,CS.out.2];exact Nat.le_refl _)]
   refine⟨j+k,m-k,so2,cp-k,bl2,by have:=HJ.out;omega,rfl,rfl,?_,?_,BL2.out.2,?_,?_,CH.out.Bj hchA⟩
   · have:=((BY.out.drop hkg).Ae hchA (Jf NE.out))
     rw[HSO.out]
     rwa [List.drop_drop] at this
   · rw[HSO.out];exact fun _=>Jf NE.out
   · rw[htk,hgr.2,hmod,hb2]
   rw[htk,hgr.1,hmod];have:=AV ST2.out 73 (.int .i64 ((n+k:Nat):Int));rw[Il WL.out BL2.out.2] at this;exact this
 have h0:j=bs.length:=by omega
 have hmz:m=0:=by omega
 have hd:decide (0<m)=false:=by simp;omega
 rw[h0,List.take_length] at hrest hst;have ST:=Lib.hid hst;have RE:=Lib.hid hrest;have BL:=Lib.hid hbl;have CHH:=Lib.hid hch;clear hst hrest hbl hch hby hne h0 hmz hm hjm;go_wp2;go_ret;exact⟨rfl,⟨bl',BL.out,RE.out,by have:=ST.out;rw[←List.length_append] at this;exact this⟩,CHH.out⟩
theorem Vj (x:UInt32):((x.toNat:Int) / (16777216:Int)) % (256:Int)=((x >>> 24).toUInt8.toNat:Int):=by
 simp[UInt32.toNat_shiftRight,Nat.shiftRight_eq_div_pow]
theorem Uv (x:UInt32):((x.toNat:Int) / (16777216:Int))=((x >>> 24).toUInt8.toNat:Int):=by
 have:=x.toNat_lt;rw[←Vj];omega
theorem Vn (x:UInt32):((x.toNat:Int) / (65536:Int)) % (256:Int)=((x >>> 16).toUInt8.toNat:Int):=by
 simp[UInt32.toNat_shiftRight,Nat.shiftRight_eq_div_pow]
theorem WW (x:UInt32):((x.toNat:Int) / (256:Int)) % (256:Int)=((x >>> 8).toUInt8.toNat:Int):=by
 simp[UInt32.toNat_shiftRight,Nat.shiftRight_eq_div_pow]
theorem Wm (x:UInt32):(x.toNat:Int) % (256:Int)=(x.toUInt8.toNat:Int):=by
 simp
theorem Jq (x:UInt32) (w:World):Calls Tryz.prog 248 #[.int .i64 (x.toNat:Int)] w fun e w'=>e=.returned (.tuple #[.slice (some ⟨w.heap.size,0,none⟩) 4 4,.int .i64 0])∧w'=w.alloc (.cells (AS (Sha.be4 x)) 5):=by
 have h1:0≤(x.toNat:Int):=by omega
 have h2:(x.toNat:Int)≤4294967295:=by have:=x.toNat_lt;omega
 have b24:=Uv x;have b16:=Vn x;have b8:=WW x;have b0:=Wm x;have hB:Sha.be4 x = [(x >>> 24).toUInt8,(x >>> 16).toUInt8,(x >>> 8).toUInt8,x.toUInt8]:=rfl;generalize (x >>> 24).toUInt8=y3 at b24 hB;generalize (x >>> 16).toUInt8=y2 at b16 hB;generalize (x >>> 8).toUInt8=y1 at b8 hB;generalize x.toUInt8=y0 at b0 hB;have HB:=Lib.hid hB;clear hB;generalize x.toNat=n at *;go_enter Tryz.func248,Tryz.ntmps248;go_wp2;go_ret2;refine⟨rfl,?_⟩;rw[HB.out];rfl
theorem Uf:(Tryz.prog.info? 337).bind (·.zero)=some (.agg (.bool false::((List.replicate 8 (0:UInt32)).map wv++((List.replicate 64 (0:UInt8)).map bv ++ [.int .i64 0,.int .i64 0]))).toArray):=by kernel_rfl
theorem KH:(Tryz.prog.info? 337).map (·.size)=some 75:=by kernel_rfl
theorem Nf:Tryz.prog.built 337 [(0,.bool true),(1,.agg (B6 Sha.h0))]=some (stc Sha.h0 (List.replicate 64 0) 0 0):=by kernel_rfl
theorem Km (w:World):Calls Tryz.prog 198 #[] w fun e w'=>∃a,w.heap.size≤a∧a<w'.heap.size∧e=.returned (.pointer (some ⟨a,0,none⟩))∧EA w' a []∧Ch (fun _=>False) w w':=by
 have HB:=Lib.hid Sy;obtain⟨K,hK⟩:∃K,B6 Sha.h0=K:=⟨_,rfl⟩
 have hbt:=Nf;obtain⟨S,hS⟩:∃S,stc Sha.h0 (List.replicate 64 0) 0 0=S:=⟨_,rfl⟩
 rw[hK,hS] at hbt;rw[hK] at HB;have HS:=Lib.hid hS;have HBT:=Lib.hid hbt;clear hK hbt hS;go_enter Tryz.func198,Tryz.ntmps198;go_wp2_with fail;refine(HB.out _).mono ?_;rintro e w1 ⟨rfl,hc1⟩
 go_wp2_with (first
  | ((with_reducible show zOq (.build 337 _));refine Dq rfl 337 _ _ _ _ rfl (.bool true) (.agg K) rfl rfl S HBT.out ?_))
 go_ret;have hws:=hc1.size;refine⟨_,hws,by simp,rfl,⟨List.replicate 64 0,rfl,rfl,?_⟩,hc1.alloc _⟩;unfold Nt;rw[heap_alloc_new, ←HS.out];rfl
theorem EA.Ae {F:Nat→Prop} {w w':World} {a:Nat} {txt:List UInt8} (h:EA w a txt) (hc:Ch F w w') (hF:¬F a):EA w' a txt:=by
 obtain⟨bl,h1,h2,h3⟩:=h;exact⟨bl,h1,h2,hc.row h3 hF⟩
theorem JQ:(Tryz.prog.info? 35).bind (·.zero)=some (.agg (AS (List.replicate 32 0))):=by kernel_rfl
theorem C7:(Tryz.prog.info? 35).map (·.size)=some 32:=by kernel_rfl
theorem KC (l:List UInt32) (hl:l.length=8) (i:Nat) (hi:i<8) (w:World):(Instr.index 333 (.agg (B6 l)) (.int .i64 (i:Int))).run Tryz.prog w=.ok (wv (l.getD i 0)) w:=by
 have hx:=CV (l:=l) (i:=i) (by omega)
 obtain⟨inf,h1,h2⟩:∃inf,Tryz.prog.info? 332=some inf∧inf.size=1:=by
  obtain⟨inf,h1,h2⟩:=Option.map_eq_some_iff.1 (by kernel_rfl:(Tryz.prog.info? 332).map (·.size)=some 1);exact⟨inf,h1,h2⟩
 have hsz:∀w,(sizeOf 332).run Tryz.prog w=.ok 1 w:=fun w=>by rw[←h2];simp[sizeOf,typeInfo,h1]
 have hagg:∀w,(isAgg 332).run Tryz.prog w=.ok false w:=fun w=>by kernel_rfl
 unfold Instr.index;simp only[asIntOf,Sem.run_bind,Sem.run_pure,Result.andThen_ok,run_underlying Tryz.underlying333];rw[if_pos (by omega)];simp only[Sem.run_bind,hsz,Result.andThen_ok,part,hagg];simp only[Int.toNat_natCast,Nat.mul_one,hx];rfl
def outs (l:List UInt32) (i:Nat):List UInt8:=(l.take i).flatMap Sha.be4++List.replicate (32-4*i) 0
theorem Cv:∀(l:List UInt32),(l.flatMap Sha.be4).length=4*l.length
 | []=>rfl
 | x::l=>by
  have:=Cv l;simp only[List.flatMap_cons,List.length_append,this,List.length_cons,Sha.be4];simp;omega
theorem NR {l:List UInt32} (hl:l.length=8) {i:Nat} (hi:i≤8):(outs l i).length=32:=by
 simp only[outs,List.length_append,Cv,List.length_take,List.length_replicate];omega
theorem Qc {l:List UInt32} (hl:l.length=8) {i:Nat} (hi:i<8):(outs l i).take (4*i)++(Sha.be4 (l.getD i 0)++(outs l i).drop (4*i+4))=outs l (i+1):=by
 have h1:((l.take i).flatMap Sha.be4).length=4*i:=by rw[Cv,List.length_take];omega
 unfold outs;rw[List.take_append_of_le_length (by omega),List.take_of_length_le (by omega),List.drop_append,List.drop_eq_nil_of_le (by omega),List.nil_append,h1,List.drop_replicate]
 have h2:l.take (i+1)=l.take i ++ [l.getD i 0]:=by
  rw[List.take_add_one,show l[i]?=some (l.getD i 0) by simp[hl,hi]];rfl
 rw[h2,List.flatMap_append,List.append_assoc,show 32-4*i-(4*i+4-4*i)=32-4*(i+1) by omega];simp
theorem Q5 {l:List UInt32} (hl:l.length=8):outs l 8=l.flatMap Sha.be4:=by simp[outs,hl,List.take_of_length_le]
theorem Wu (n:Nat) (h:n≤1125899906842000):((n:Int)*(8:Int)) / (4294967296:Int)=((UInt32.ofNat (n*8 / 4294967296)).toNat:Int):=by
 rw[UInt32.toNat_ofNat',Nat.mod_eq_of_lt (by omega)];omega
theorem Wz (n:Nat) (h:n≤1125899906842000):bits .and .u64 ((n:Int)*(8:Int)) (4294967295:Int)=((UInt32.ofNat (n*8)).toNat:Int):=by
 have e:=u64_and_nat (n*8) 4294967295 (by omega) (by omega);rw[UInt32.toNat_ofNat']
 have e2:n*8 &&& 4294967295=(n*8) % 4294967296:=by
  rw[show(4294967295:Nat)=2 ^ 32-1 by rfl,Nat.and_two_pow_sub_one_eq_mod]
 rw[e2] at e;rw[show(2:Nat) ^ 32=4294967296 by rfl, ←e];rfl
theorem Vw {w:World} {a:Nat} {txt:List UInt8} (hs:EA w a txt) (hlen:txt.length≤1125899906842000) :
 Calls Tryz.prog 200 #[.pointer (some ⟨a,0,none⟩)] w fun e w'=>e=.returned (.agg (AS (Sha.sum txt)))∧Ch (fun _=>False) w w':=by
 obtain⟨bl,hbl,hrest,hst⟩:=hs;have hwl:=Sha.Ca txt;have c0:=AH hst Jn;have hal:=Ad hst;obtain⟨R,hR⟩:∃R,R=stc (Sha.words txt) bl (txt.length % 64) txt.length:=⟨_,rfl⟩
 have hRs:R.size=75:=by rw[hR];exact Fz hwl hbl
 have hR1:∀v∈R.toList,v.oneCell'=true:=fun v hv=>by
  rw[hR] at hv;simp only[stc,List.mem_cons,List.mem_append,List.mem_map,List.not_mem_nil,or_false] at hv;rcases hv with rfl|⟨x,_,rfl⟩|⟨x,_,rfl⟩|rfl|rfl<;>rfl
 have hR74:R[74]?=some (.int .i64 (txt.length:Nat)):=by rw[hR];exact Po hwl hbl
 have hg:w.heap[a]?=some (.cells R 337 (0,0)):=by rw[hR];exact hst
 obtain⟨Z,hZ⟩:∃Z,Z=AS (List.replicate 32 0):=⟨_,rfl⟩
 have hzh:=JQ;rw[←hZ] at hzh;have hZs:Z.size=32:=by rw[hZ];rfl
 obtain⟨Y,hY⟩:∃Y:Array Value,Y=(Value.bool false::((List.replicate 8 (0:UInt32)).map wv++((List.replicate 64 (0:UInt8)).map bv ++ [.int .i64 0,.int .i64 0]))).toArray:=⟨_,rfl⟩
 have hys:=Uf;rw[←hY] at hys;have hYs:Y.size=75:=by rw[hY];rfl
 have ht1:0≤(txt.length:Int):=by omega
 have ht2:(txt.length:Int)≤1125899906842000:=by omega
 have HR:=(hIq hR (aIq hRs hR1))
 have HG:=Lib.hid hg;have HZ:=(hIq hzh (aIq hZs hZ))
 have HY:=(hIq hys hYs)
 have HST:=Lib.hid (show EA w a txt from⟨bl,hbl,hrest,hst⟩);have HL:=Lib.hid hlen;clear hbl hrest hst hR hRs hR1 hg hZ hzh hZs hY hys hYs hlen hwl
 have hrow1:(((w.alloc (.cells Z 35)).alloc (.cells Y 337)).setRow (w.heap.size+1) R).heap[w.heap.size+1]?=some (.cells R 337 (0,0)):=by
  rw[Co,BG]<;>simp[putRow]
 have hc74:=AH hrow1 hR74;have HROW:=Lib.hid hrow1;clear hrow1;go_enter Tryz.func200,Tryz.ntmps200;go_wp2_with (first|((with_reducible show zOq (.alloc 35));refine AO rfl 35 rfl (.agg Z) HZ.out.1 ?_;dsimp only[Value.cells];try simp only[World.size_alloc]));refine(An (a:=a) ?_).mono ?_
 · exact(AH (AQ HG.out _) (by rw[HR.out.1];exact Jn))
 rintro e w1 ⟨rfl,rfl⟩
 go_wp2_with (first
  | ((with_reducible show zOq (.alloc 337));refine AO rfl 337 rfl (.agg Y) HY.out.1 ?_;dsimp only[Value.cells];try simp only[World.size_alloc])
  | ((with_reducible show zOq (.load 337 _));refine AJ rfl 337 _ rfl a 0 rfl (AQ HG.out _) Tryz.underlying337 rfl KH (by rw[HR.out.2.1];omega) R (by simp[←HR.out.2.1]) ?_)
  | ((with_reducible show zOq (.store 337 _ _));refine AI rfl 337 _ _ rfl (w.heap.size+1) 0 R rfl rfl (by rw[BG];simp) (by rw[KH,HR.out.2.1]) (by rw[HR.out.2.1,HY.out.2];omega) HR.out.2.2 R (by rw[AT _ _ (by rw[Array.length_toList,Array.length_toList,HR.out.2.1,HY.out.2])]) ?_))
 have hst1:EA (((w.alloc (.cells Z 35)).alloc (.cells Y 337)).setRow (w.heap.size+1) R) (w.heap.size+1) txt:=by
  obtain⟨bl,h1,h2,h3⟩:=HST.out
  have e:R=stc (Sha.words txt) bl (txt.length % 64) txt.length:=by
   have h4:=HG.out.symm.trans h3;simp only[Option.some.injEq,Obj.cells.injEq] at h4;exact h4.1
  exact⟨bl,h1,h2,by unfold Nt;rw[←e];exact HROW.out⟩
 have hz1:(((w.alloc (.cells Z 35)).alloc (.cells Y 337)).setRow (w.heap.size+1) R).heap[w.heap.size]?=some (.cells Z 35 (0,0)):=by
  rw[CI,Ds,BG]<;>simp
 have hch1:Ch (fun _=>False) w (((w.alloc (.cells Z 35)).alloc (.cells Y 337)).setRow (w.heap.size+1) R):=(((Ch.refl _ _).alloc _).alloc _).setRow (.inr (by omega)) _;have hs1:w.heap.size+2≤(((w.alloc (.cells Z 35)).alloc (.cells Y 337)).setRow (w.heap.size+1) R).heap.size:=by simp
 obtain⟨w1,hw1⟩:∃w1,w1=((w.alloc (.cells Z 35)).alloc (.cells Y 337)).setRow (w.heap.size+1) R:=⟨_,rfl⟩
 have hsz1:w1.heap.size=w.heap.size+1+1:=by rw[hw1];simp
 rw[←hw1] at hst1 hz1 hch1 ⊢
 have hb1:Bytes (w1.alloc (.cells #[.int .u8 128] 5)) (.slice (some ⟨w.heap.size+1+1,0,none⟩) 1 1) [128]:=by
  rw[←hsz1];exact Bytes.row (bs := [128]) (heap_alloc_new _ _) rfl (by unfold maxLen;omega)
 have hW1:=E7 (hst1.Ae ((Ch.refl (fun _=>False) w1).alloc (.cells #[.int .u8 128] 5)) id) hb1 (fun _ k hk=>by cases hk;simp) (by have:=HL.out;simp;omega);refine hW1.mono ?_;rintro e w2 ⟨rfl,hst2,hc2⟩;have hc12:Ch (fun k=>k=w.heap.size+1) w1 w2:=((Ch.refl (fun k=>k=w.heap.size+1) w1).alloc _).Bj hc2;have ZR:=Lib.hid hz1;have CH1:=Lib.hid hch1;have S1:=Lib.hid hsz1;have ST2:=Lib.hid hst2;have C12:=Lib.hid hc12;clear hst1 hz1 hch1 hs1 hw1 hsz1 hb1 hW1 hst2 hc2 hc12 hc74 c0 hR74;go_wp2;go_loopg [30] (Sha.Jw txt.length) (fun g s30 wr=>∃j m:Nat,m=g∧j+m=Sha.Jw txt.length∧EA wr (w.heap.size+1) (txt ++ [128]++List.replicate j 0)∧Ch (fun k=>k=w.heap.size+1) w1 wr)
 case atStart=>exact⟨0,_,rfl,by omega,by simpa using ST2.out,C12.out⟩
 obtain⟨j,m,rfl,hjm,hst,hch⟩:=hrel;have hzl:Sha.Jw txt.length=(55+64-txt.length % 64) % 64:=rfl;obtain⟨bl',q1,q2,q3⟩:=hst;have hll:(txt ++ [128]++List.replicate j 0).length=txt.length+1+j:=by simp;omega
 have c73:=AH q3 (Pt (Sha.Ca _) q1);have hst:EA wr (w.heap.size+1) (txt ++ [128]++List.replicate j 0):=⟨bl',q1,q2,q3⟩
 rw[hll] at c73;by_cases hm:m=0
 · have hn56:(txt.length+1+j) % 64=56:=by omega
   rw[hn56] at c73;have hj:j=Sha.Jw txt.length:=by omega
   have STA:=Lib.hid hst;have CHA:=Lib.hid hch;have HJ:=Lib.hid hj;clear hm hjm hzl q1 q2 q3 hll hst hch hn56 hj;have hhi:=Wu txt.length HL.out;have hlo:=Wz txt.length HL.out;have hl8:Sha.len8 txt.length=Sha.be4 (UInt32.ofNat (txt.length*8 / 4294967296))++Sha.be4 (UInt32.ofNat (txt.length*8)):=rfl;generalize UInt32.ofNat (txt.length*8 / 4294967296)=hi at hhi hl8;generalize UInt32.ofNat (txt.length*8)=lo at hlo hl8;have whi:wrap64 (hi.toNat:Int)=(hi.toNat:Int):=by have:=hi.toNat_lt;unfold wrap64;omega
   have wlo:wrap64 (lo.toNat:Int)=(lo.toNat:Int):=by have:=lo.toNat_lt;unfold wrap64;omega
   have HL8:=Lib.hid hl8;clear hl8;go_wp2_with fail;refine(Jq hi _).mono ?_;rintro e w3 ⟨rfl,hw3⟩;go_wp2_with fail;refine(Jq lo _).mono ?_;rintro e w4 ⟨rfl,hw4⟩;go_wp2_with fail;have hwr:w.heap.size+1<wr.heap.size:=by have:=CHA.out.size;have:=S1.out;omega
   have hzb:Sha.Jw txt.length<64:=Nat.mod_lt _ (by omega);have hl1:(txt ++ [128]++List.replicate j 0).length≤1125899906842100:=by have:=HL.out;have:=HJ.out;simp;omega
   obtain⟨t1,ht1'⟩:∃t1,t1=txt ++ [128]++List.replicate j 0:=⟨_,rfl⟩
   rw[←ht1'] at STA hl1;have hbH:Bytes ((wr.alloc (.cells (AS (Sha.be4 hi)) 5)).alloc (.cells (AS (Sha.be4 lo)) 5)) (.slice (some ⟨wr.heap.size,0,none⟩) 4 4) (Sha.be4 hi):=Bytes.row (AQ (heap_alloc_new _ _) _) rfl (by unfold maxLen;omega)
   have hbL:Bytes ((wr.alloc (.cells (AS (Sha.be4 hi)) 5)).alloc (.cells (AS (Sha.be4 lo)) 5)) (.slice (some ⟨wr.heap.size+1,0,none⟩) 4 4) (Sha.be4 lo):=by
    have:=heap_alloc_new (wr.alloc (.cells (AS (Sha.be4 hi)) 5)) (.cells (AS (Sha.be4 lo)) 5);rw[World.size_alloc] at this;exact Bytes.row this rfl (by unfold maxLen;omega)
   have hstW:=STA.out.Ae (((Ch.refl (fun _=>False) wr).alloc (.cells (AS (Sha.be4 hi)) 5)).alloc (.cells (AS (Sha.be4 lo)) 5)) id;refine(E7 hstW hbH (fun _ k hk=>by cases hk;simp;omega) (by simp[Sha.be4];omega)).mono ?_;rintro e w5 ⟨rfl,hst5,hc5⟩;have hbL5:=hbL.Ae hc5 (fun k hk=>by cases hk;simp;omega);have ST5:=Lib.hid hst5;have BL5:=Lib.hid hbL5;have C5:=Lib.hid hc5;clear hst5 hbL5 hc5 hbH hbL hstW;go_wp2_with fail;refine(E7 ST5.out BL5.out (fun _ k hk=>by cases hk;simp;omega) (by simp[Sha.be4];omega)).mono ?_;rintro e w6 ⟨rfl,hst6,hc6⟩
   have hpad:t1++Sha.be4 hi++Sha.be4 lo=Sha.pad txt:=by
    rw[ht1',List.append_assoc _ (Sha.be4 hi), ←HL8.out,HJ.out];rfl
   rw[hpad] at hst6;have hch6:Ch (fun k=>k=w.heap.size+1) w1 w6:=((CHA.out.Bj (((Ch.refl (fun k=>k=w.heap.size+1) wr).alloc _).alloc _)).Bj C5.out).Bj hc6;have hz6:=hch6.row ZR.out (by omega);have hw6:Ch (fun _=>False) w w6:=CH1.out.trans hch6 (fun k hk=>.inr (by omega));obtain⟨bl6,q1,q2,q3⟩:=hst6;obtain⟨R6,hR6⟩:∃R6,R6=stc (Sha.words (Sha.pad txt)) bl6 ((Sha.pad txt).length % 64) (Sha.pad txt).length:=⟨_,rfl⟩
   have hwl6:=Sha.Ca (Sha.pad txt);have hR6s:R6.size=75:=by rw[hR6];exact Fz hwl6 q1
   have hR6h:R6.extract 1 (1+8)=B6 (Sha.words (Sha.pad txt)):=by rw[hR6];exact VW hwl6 q1
   have hg6:w6.heap[w.heap.size+1]?=some (.cells R6 337 (0,0)):=by rw[hR6];exact q3
   have hsum:Sha.sum txt=(Sha.words (Sha.pad txt)).flatMap Sha.be4:=rfl;obtain⟨V,hV⟩:∃V,V=Sha.words (Sha.pad txt):=⟨_,rfl⟩
   rw[←hV] at hwl6 hR6h hsum;have hl6:=Ad hg6;have G6:=(hIq hg6 (aIq hR6s hR6h))
   have Z6:=Lib.hid hz6;have W6:=Lib.hid hw6;have VV:=(hIq hwl6 hsum)
   have hix:∀(i:Nat) (w0:World),i<8→(Instr.index 333 (.agg (B6 V)) (.int .i64 (i:Int))).run Tryz.prog w0=.ok (wv (V.getD i 0)) w0:=fun i w0 hi=>KC V hwl6 i hi w0
   have IX:=Lib.hid hix;clear hpad hch6 hz6 hw6 q1 q2 q3 hR6 hwl6 hR6s hR6h hg6 hV hsum hix hhi hlo whi wlo c73
   go_wp2_with (first
    | ((with_reducible show zOq (.alloc 35));refine AO rfl 35 rfl (.agg Z) HZ.out.1 ?_;dsimp only[Value.cells];try simp only[World.size_alloc])
    | ((with_reducible show zOq (.load 333 _));refine AJ rfl 333 _ rfl (w.heap.size+1) 1 rfl (AQ G6.out.1 _) Tryz.underlying333 rfl Ic (by rw[G6.out.2.1];omega) _ G6.out.2.2 ?_))
   obtain⟨wo,hwo⟩:∃wo:World,wo=wr:=⟨_,rfl⟩
   subst hwo;go_loopg [51] 8 (fun g s51 wr=>∃i:Nat,i≤8∧g=8-i∧s51=.int .i64 i∧wr.heap[w6.heap.size]?=some (.cells (AS (outs V i)) 35 (0,0))∧wr.heap[w.heap.size]?=some (.cells Z 35 (0,0))∧Ch (fun _=>False) w wr)
   case atStart =>
    refine⟨0,Nat.zero_le _,rfl,rfl,?_,AQ Z6.out _,W6.out.alloc _⟩;rw[heap_alloc_new,show outs V 0=List.replicate 32 0 from rfl, ←HZ.out.2.2]
   obtain⟨i,hi,rfl,rfl,ho,hz,hch⟩:=hrel;have hw6s:=W6.out.size;by_cases hil:i<8
   · have hos:=Qc VV.out.1 hil
     have hol:=NR VV.out.1 hi;have hixi:=fun w0=>IX.out i w0 hil
     generalize V.getD i 0=x at hos hixi;have hx1:0≤(x.toNat:Int):=by omega
     have hx2:wrap64 (x.toNat:Int)=(x.toNat:Int):=by have:=x.toNat_lt;unfold wrap64;omega
     have hi1:(i:Int)≤7:=by omega
     have hi2:(i:Int)<8:=by omega
     have hi3:i≤7:=by omega
     have hsl:∀w0:World,(Instr.sliceAt 35 (.pointer (some ⟨w6.heap.size,0,none⟩)) (some (.int .i64 (4*(i:Int)))) none none).run Tryz.prog w0=.ok (.slice (some ⟨w6.heap.size,4*i,none⟩) (32-4*i) (32-4*i)) w0:=fun w0=>by
      have:=run_arr_l (P:=Tryz.prog) w0 35 32 (by kernel_rfl) (by kernel_rfl) (by kernel_rfl) w6.heap.size 0 (4*i) .i64 (by omega);rw[Nat.zero_add] at this;exact this
     have OS:=(hIq hos hol)
     have HO:=Lib.hid ho;have HZ2:=Lib.hid hz;have HC2:=Lib.hid hch;have hlt:=Ad ho;clear hos hol ho hz hch;go_wp2_with fail;refine(Jq x _).mono ?_;rintro e w7 ⟨rfl,hw7⟩
     have hnew:((AS (outs V i)).toList.take (4*i)++((Sha.be4 x).map bv++(AS (outs V i)).toList.drop (4*i+4))).toArray=AS (outs V (i+1)):=by
      rw[←OS.out.1];simp[AS]
     have hsrc:∀j v,((Sha.be4 x).map bv)[j]?=some v→(wr.alloc (.cells (AS (Sha.be4 x)) 5)).cell? ((⟨wr.heap.size,0,none⟩:Addr).add j)=some v:=fun j v hv=>by
      rw[add_plain,Nat.zero_add];exact AH (heap_alloc_new _ _) (by simpa[AS] using hv)
     have NW:=Lib.hid hnew;have SRC:=Lib.hid hsrc;clear hnew hsrc
     go_wp2_with (first
      | ((with_reducible show zOq (.call _));go_must (refine Dk rfl _ _ 29 29 rfl 5 Tryz.underlying29 (by kernel_rfl) w6.heap.size (4*i) (32-4*i) (32-4*i) ⟨wr.heap.size,0,none⟩ 4 4 rfl rfl (AS (outs V i)) _ (AQ HO.out _) ((Sha.be4 x).map bv) 4 rfl (Nat.min_eq_left (by omega)).symm SRC.out (by rw[AU,OS.out.2];omega) (DI _) _ NW.out ?_)))
     go_roundg (8-(i+1))
     case measure=>omega
     refine⟨i+1,by omega,rfl,by go_num,AK (AQ HO.out _) _,row_setRow (AQ HZ2.out _) (by omega) _,(HC2.out.alloc _).setRow (.inr (by omega)) _⟩
   have h8:i=8:=by omega
   have hd:decide ((i:Int)<8)=false:=by simp;omega
   rw[h8,Q5 VV.out.1, ←VV.out.2] at ho;obtain⟨O,hO⟩:∃O,O=AS (Sha.sum txt):=⟨_,rfl⟩
   have hos:O.size=32:=by rw[hO,AU,VV.out.2,Cv,VV.out.1]
   have ho1:=BO (Sha.sum txt);rw[←hO] at ho ho1;have HO:=(hIq ho (aIq hos ho1))
   have HO':=Lib.hid hO;have HZ2:=Lib.hid hz;have HC2:=Lib.hid hch;clear ho hos ho1 hO hz hch hil h8
   go_wp2_with (first
    | ((with_reducible show zOq (.load 35 _));refine AJ rfl 35 _ rfl w6.heap.size 0 rfl HO.out.1 Tryz.underlying35 rfl C7 (by rw[HO.out.2.1];omega) O (by simp[←HO.out.2.1]) ?_)
    | ((with_reducible show zOq (.store 35 _ _));refine AI rfl 35 _ _ rfl w.heap.size 0 O rfl rfl HZ2.out (by rw[C7,HO.out.2.1]) (by rw[HO.out.2.1,HZ.out.2.1];omega) HO.out.2.2 O (by rw[AT _ _ (by rw[Array.length_toList,Array.length_toList,HO.out.2.1,HZ.out.2.1])]) ?_))
   exact Af (p:=2) rfl rfl (AK HZ2.out _) Tryz.underlying35 rfl (by rw[C7,HO.out.2.1]) rfl ⟨by rw[HO'.out],HC2.out.setRow (.inr (Nat.le_refl _)) _⟩
 obtain⟨n,hn⟩:∃n,n=(txt.length+1+j) % 64:=⟨_,rfl⟩
 have hn56:n≠56:=by omega
 have hnb:((n:Int) == 56)=false:=by simp;omega
 have hnb':((n:Int) != 56)=true:=by simp;omega
 rw[←hn] at c73;have STA:=Lib.hid hst;have CHA:=Lib.hid hch;have HJM:=(hIq hjm hm)
 clear hm hjm hzl q1 q2 q3 hll hst hch hn56 hn;go_wp2_with fail;have hb2:Bytes (wr.alloc (.cells #[.int .u8 0] 5)) (.slice (some ⟨wr.heap.size,0,none⟩) 1 1) [0]:=Bytes.row (bs := [0]) (heap_alloc_new _ _) rfl (by unfold maxLen;omega);have hwr:w.heap.size+1<wr.heap.size:=by have:=CHA.out.size;have:=S1.out;omega
 refine(E7 (STA.out.Ae ((Ch.refl (fun _=>False) wr).alloc (.cells #[.int .u8 0] 5)) id) hb2 (fun _ k hk=>by cases hk;simp;omega) (by have:=HL.out;have:=HJM.out.1;have hz:Sha.Jw txt.length<64:=Nat.mod_lt _ (by omega);simp;omega)).mono ?_;rintro e w3 ⟨rfl,hst3,hc3⟩;have ST3:=Lib.hid hst3;have C3:=Lib.hid hc3;clear hst3 hc3 hb2;go_wp2;go_roundg (m-1)
 case measure=>have:=HJM.out.2;omega
 have h1:=HJM.out.1;have h2:=HJM.out.2;refine⟨j+1,m-1,rfl,by omega,?_,CHA.out.Bj (((Ch.refl (fun k=>k=w.heap.size+1) wr).alloc _).Bj C3.out)⟩;have:=ST3.out;rw[List.append_assoc, ←List.replicate_succ'] at this;exact this
end Go.Proofs.YtngbdbpofifimaaGreat.ShaW
namespace Go.Proofs.YtngbdbpofifimaaGreat.Tag
open Go.RowKit Go.Proofs.YtngbdbpofifimaaGreat.ShaW
def Jz (w:World) (v:Value) (ps:List (List UInt8)):Prop :=
 ∃ao cap,v=.slice ao ps.length cap∧∀(i:Nat) (p:List UInt8),ps[i]?=some p→∃g off x,ao=some ⟨g,off,none⟩∧w.cell? ⟨g,off+i,none⟩=some x∧Bytes w x p∧(p ≠ []→∀k,x.ownBlock=some k→k<w.heap.size)
def digest (t:UInt8) (ps:List (List UInt8)):List UInt8:=Sha.sum (t::ps.flatten)
theorem Ip:∀ {ps:List (List UInt8)} {i:Nat} {p:List UInt8},ps[i]?=some p→((ps.take i).flatten).length+p.length≤ps.flatten.length
 | [],i,p,h=>by simp at h
 | q::ps,0,p,h=>by simp at h;subst h;simp
 | q::ps,i+1,p,h=>by
  have:=Ip (ps:=ps) (i:=i) (p:=p) (by simpa using h);simp only[List.take_succ_cons,List.flatten_cons,List.length_append];omega
theorem Pz {w:World} (t:UInt8) {v:Value} {ps:List (List UInt8)} (hp:Jz w v ps) (hlen:ps.flatten.length≤1000000000000) (hn:ps.length≤1000) :
 Calls Tryz.prog 121 #[bv t,v] w fun e w'=>e=.returned (.agg (AS (digest t ps)))∧Ch (fun _=>False) w w':=by
 obtain⟨ao,cap,rfl,hps⟩:=hp;obtain⟨Z,hZ⟩:∃Z,Z=AS (List.replicate 32 0):=⟨_,rfl⟩
 have hzh:=JQ;rw[←hZ] at hzh;have hZs:Z.size=32:=by rw[hZ];rfl
 have HZ:=(hIq hzh hZs)
 have HPS:=Lib.hid hps;have HLEN:=Lib.hid hlen;clear hzh hZs hZ hps hlen;go_enter Tryz.func121,Tryz.ntmps121;go_wp2_with (first|((with_reducible show zOq (.alloc 35));refine AO rfl 35 rfl (.agg Z) HZ.out.1 ?_;dsimp only[Value.cells];try simp only[World.size_alloc]));refine(Km _).mono ?_;rintro e w1 ⟨a,ha1,ha2,rfl,hst,hch⟩;rw[World.size_alloc] at ha1;have hz1:=hch.row (heap_alloc_new w (.cells Z 35)) id;have hc1:=((Ch.refl (fun _=>False) w).alloc (.cells Z 35)).trans hch (fun _=>fEq);have Z1:=Lib.hid hz1;have C1:=Lib.hid hc1;have ST1:=Lib.hid hst;clear hst hch hz1 hc1;go_wp2_with fail;have hb2:Bytes (w1.alloc (.cells #[bv t] 5)) (.slice (some ⟨w1.heap.size,0,none⟩) 1 1) [t]:=Bytes.row (bs := [t]) (heap_alloc_new _ _) rfl (by unfold maxLen;omega);refine(E7 (ST1.out.Ae ((Ch.refl (fun _=>False) w1).alloc _) id) hb2 (fun _ k hk=>by cases hk;simp;omega) (by simp)).mono ?_;rintro e w2 ⟨rfl,hst2,hc2⟩;have ST2:=Lib.hid hst2;have C2:=Lib.hid (((Ch.refl (fun k=>k=a) w1).alloc _).Bj hc2);clear hst2 hc2 hb2;go_wp2;go_loopg [15] ps.length (fun g s15 wr=>∃i:Nat,i≤ps.length∧g=ps.length-i∧s15=.int .i64 i∧EA wr a (t::(ps.take i).flatten)∧Ch (fun k=>k=a) w1 wr)
 case atStart=>exact⟨0,Nat.zero_le _,rfl,rfl,by simpa using ST2.out,C2.out⟩
 obtain⟨i,hi,rfl,rfl,hst,hch⟩:=hrel;have hwr:Ch (fun _=>False) w wr:=C1.out.trans hch (fun k hk=>.inr (by omega));by_cases hil:i<ps.length
 · obtain⟨p,hp⟩:∃p,ps[i]?=some p:=⟨_,List.getElem?_eq_getElem hil⟩
   obtain⟨g,off,x,rfl,hc,hb,hk⟩:=HPS.out i p hp;have c1:=hwr.cell hc id;have hbr:=hb.Ae hwr (fun _ _ h=>h);have hxa:p ≠ []→∀k,x.ownBlock=some k→k≠a:=fun hp0 k h=>by have:=hk hp0 k h;omega
   have hi1:(i:Int)<(ps.length:Int):=by omega
   have hi2:(i:Int)≤1000:=by omega
   have hi3:i≤1000:=by omega
   have hpl:p.length≤1000000000000:=by
    have h1:=HLEN.out;have:=Ip hp;omega
   have hfl:(t::(ps.take i).flatten).length+p.length≤1125899906842624:=by
    have h1:=HLEN.out;have h2:=Ip hp;simp only[List.length_cons];omega
   have htk:t::(ps.take (i+1)).flatten=(t::(ps.take i).flatten)++p:=by
    rw[List.take_add_one,hp];simp
   have HB:=Lib.hid hbr;have HXA:=Lib.hid hxa;have HFL:=Lib.hid hfl;have HTK:=Lib.hid htk;have ST:=Lib.hid hst;have CH:=Lib.hid hch;clear hp hc hb hbr hxa hk hfl htk hst hch hwr hpl;go_wp2_with fail;refine(E7 ST.out HB.out HXA.out HFL.out).mono ?_;rintro e w3 ⟨rfl,hst3,hc3⟩;have ST3:=Lib.hid hst3;have C3:=Lib.hid hc3;clear hst3 hc3;go_wp2;go_roundg (ps.length-(i+1))
   case measure=>omega
   exact⟨i+1,by omega,rfl,by go_num,by rw[HTK.out];exact ST3.out,CH.out.Bj C3.out⟩
 have hil':i=ps.length:=by omega
 have hd:decide (i<ps.length)=false:=by simp;omega
 have hd':decide ((i:Int)<(ps.length:Int))=false:=by simp;omega
 rw[hil',List.take_length] at hst;have HST:=Lib.hid hst;have HW:=Lib.hid hwr;have HZR:=Lib.hid (hch.row Z1.out (by omega));clear hst hch hwr hil' hil;have hln:(t::ps.flatten).length≤1125899906842000:=by have:=HLEN.out;simp only[List.length_cons];omega
 obtain⟨O,hO⟩:∃O,O=AS (digest t ps):=⟨_,rfl⟩
 have hos:O.size=32:=by rw[hO,AU,digest,Sha.sum,Cv,Sha.Ca]
 have ho1:=BO (digest t ps);rw[←hO] at ho1;have hsum:=Vw HST.out hln;rw[show AS (Sha.sum (t::ps.flatten))=O from hO.symm] at hsum;have HS:=Lib.hid hsum;have HO:=(hIq hO (aIq hos ho1))
 clear hln hO hos ho1 hsum;go_wp2_with fail;refine HS.out.mono ?_;rintro e w4 ⟨rfl,hc4⟩;have hz4:=hc4.row HZR.out id;have hw4:=HW.out.trans hc4 (fun _=>fEq);have Z4:=Lib.hid hz4;have W4:=Lib.hid hw4;clear hc4 hz4 hw4
 go_wp2_with (first
  | ((with_reducible show zOq (.store 35 _ _));refine AI rfl 35 _ _ rfl w.heap.size 0 O rfl rfl Z4.out (by rw[C7,HO.out.2.1]) (by rw[HO.out.2.1,HZ.out.2];omega) HO.out.2.2 O (by rw[AT _ _ (by rw[Array.length_toList,Array.length_toList,HO.out.2.1,HZ.out.2])]) ?_))
 exact Af (p:=4) rfl rfl (AK Z4.out _) Tryz.underlying35 rfl (by rw[C7,HO.out.2.1]) rfl ⟨by rw[HO.out.1],W4.out.setRow (.inr (Nat.le_refl _)) _⟩
theorem BM (t:UInt8) (ps:List (List UInt8)):(digest t ps).length=32:=by rw[digest,Sha.sum,Cv,Sha.Ca]
def Hi:List UInt8:=digest 0 []
def Bb (v:List UInt8):List UInt8:=digest 3 [v]
def D4 (key hash:List UInt8):List UInt8:=digest 1 [key,hash]
def GO (l r:List UInt8):List UInt8:=digest 2 [l,r]
theorem Sw (w:World):Calls Tryz.prog 52 #[] w fun e w'=>e=.returned (.agg (AS Hi))∧Ch (fun _=>False) w w':=by
 obtain⟨Z,hZ⟩:∃Z,Z=AS (List.replicate 32 0):=⟨_,rfl⟩
 have hzh:=JQ;rw[←hZ] at hzh;have hZs:Z.size=32:=by rw[hZ];rfl
 obtain⟨O,hO⟩:∃O,O=AS Hi:=⟨_,rfl⟩
 have hos:O.size=32:=by rw[hO,AU];exact BM _ _
 have ho1:=BO Hi;have hcall:=fun w=>Pz (w:=w) 0 (v:=.slice none 0 0) (ps := []) ⟨none,0,rfl,fun i p h=>by simp at h⟩ (by simp) (by simp)
 rw[←hO] at ho1;rw[show AS (digest 0 [])=O from hO.symm] at hcall;have HC:=Lib.hid hcall;have HZ:=(hIq hzh hZs)
 have HO:=(hIq hO (aIq hos ho1))
 clear hzh hZs hZ hO hos ho1 hcall;go_enter Tryz.func52,Tryz.ntmps52;go_wp2_with (first|((with_reducible show zOq (.alloc 35));refine AO rfl 35 rfl (.agg Z) HZ.out.1 ?_;dsimp only[Value.cells];try simp only[World.size_alloc]));refine(HC.out _).mono ?_;rintro e w4 ⟨rfl,hc4⟩;have hz4:=hc4.row (heap_alloc_new w (.cells Z 35)) id;have hw4:=((Ch.refl (fun _=>False) w).alloc (.cells Z 35)).trans hc4 (fun _=>fEq);have Z4:=Lib.hid hz4;have W4:=Lib.hid hw4;clear hc4 hz4 hw4
 go_wp2_with (first
  | ((with_reducible show zOq (.store 35 _ _));refine AI rfl 35 _ _ rfl w.heap.size 0 O rfl rfl Z4.out (by rw[C7,HO.out.2.1]) (by rw[HO.out.2.1,HZ.out.2];omega) HO.out.2.2 O (by rw[AT _ _ (by rw[Array.length_toList,Array.length_toList,HO.out.2.1,HZ.out.2])]) ?_))
 exact Af (p:=0) rfl rfl (AK Z4.out _) Tryz.underlying35 rfl (by rw[C7,HO.out.2.1]) rfl ⟨by rw[HO.out.1],W4.out.setRow (.inr (Nat.le_refl _)) _⟩
theorem Hu {w:World} {v:Value} {bs:List UInt8} (hb:Bytes w v bs) (hk:bs ≠ []→∀k,v.ownBlock=some k→k<w.heap.size) (hlen:bs.length≤1000000000000):Calls Tryz.prog 51 #[v] w fun e w'=>e=.returned (.agg (AS (Bb bs)))∧Ch (fun _=>False) w w':=by
 obtain⟨Z,hZ⟩:∃Z,Z=AS (List.replicate 32 0):=⟨_,rfl⟩
 have hzh:=JQ;rw[←hZ] at hzh;have hZs:Z.size=32:=by rw[hZ];rfl
 obtain⟨O,hO⟩:∃O,O=AS (Bb bs):=⟨_,rfl⟩
 have hos:O.size=32:=by rw[hO,AU];exact BM _ _
 have ho1:=BO (Bb bs);obtain⟨ao,cap,rfl,_,_⟩:=hb.form
 have hp:Jz ((w.alloc (.cells Z 35)).alloc (.cells #[.slice ao bs.length cap] 29)) (.slice (some ⟨w.heap.size+1,0,none⟩) 1 1) [bs]:=by
  refine⟨_,1,rfl,fun i p h=>?_⟩
  match i,h with
  | 0,h =>
   simp at h;subst h;refine⟨w.heap.size+1,0,.slice ao bs.length cap,rfl,?_,hb.Ae (((Ch.refl (fun _=>False) w).alloc _).alloc _) (fun _ _ h=>h),fun h0 k h=>by have:=hk h0 k h;simp;omega⟩;have:=heap_alloc_new (w.alloc (.cells Z 35)) (.cells #[.slice ao bs.length cap] 29);rw[World.size_alloc] at this;exact AH this rfl
  | i+1,h=>simp at h
 have hcall:=Pz 3 hp (by simpa using hlen) (by simp);rw[←hO] at ho1;rw[show AS (digest 3 [bs])=O from hO.symm] at hcall;have HC:=Lib.hid hcall;have HZ:=(hIq hzh hZs)
 have HO:=(hIq hO (aIq hos ho1))
 clear hzh hZs hZ hO hos ho1 hcall hp hb hk hlen;go_enter Tryz.func51,Tryz.ntmps51;go_wp2_with (first|((with_reducible show zOq (.alloc 35));refine AO rfl 35 rfl (.agg Z) HZ.out.1 ?_;dsimp only[Value.cells];try simp only[World.size_alloc]));refine HC.out.mono ?_;rintro e w4 ⟨rfl,hc4⟩;have hz4:=hc4.row (AQ (heap_alloc_new w (.cells Z 35)) _) id;have hw4:=(((Ch.refl (fun _=>False) w).alloc (.cells Z 35)).alloc (.cells #[.slice ao bs.length cap] 29)).trans hc4 (fun _=>fEq);have Z4:=Lib.hid hz4;have W4:=Lib.hid hw4;clear hc4 hz4 hw4
 go_wp2_with (first
  | ((with_reducible show zOq (.store 35 _ _));refine AI rfl 35 _ _ rfl w.heap.size 0 O rfl rfl Z4.out (by rw[C7,HO.out.2.1]) (by rw[HO.out.2.1,HZ.out.2];omega) HO.out.2.2 O (by rw[AT _ _ (by rw[Array.length_toList,Array.length_toList,HO.out.2.1,HZ.out.2])]) ?_))
 exact Af (p:=2) rfl rfl (AK Z4.out _) Tryz.underlying35 rfl (by rw[C7,HO.out.2.1]) rfl ⟨by rw[HO.out.1],W4.out.setRow (.inr (Nat.le_refl _)) _⟩
theorem MU (l r:List UInt8) (hl:l.length=32) (hr:r.length=32) (w:World):Calls Tryz.prog 50 #[.agg (AS l),.agg (AS r)] w fun e w'=>e=.returned (.agg (AS (D4 l r)))∧Ch (fun _=>False) w w':=by
 obtain⟨Z,hZ⟩:∃Z,Z=AS (List.replicate 32 0):=⟨_,rfl⟩
 have hzh:=JQ;rw[←hZ] at hzh;have hZs:Z.size=32:=by rw[hZ];rfl
 obtain⟨O,hO⟩:∃O,O=AS (D4 l r):=⟨_,rfl⟩
 have hos:O.size=32:=by rw[hO,AU];exact BM _ _
 have ho1:=BO (D4 l r);obtain⟨L,hL⟩:∃L,L=AS l:=⟨_,rfl⟩
 obtain⟨R,hR⟩:∃R,R=AS r:=⟨_,rfl⟩
 obtain⟨w3,hw3⟩:∃w3,w3=((w.alloc (.cells L 47)).alloc (.cells R 35)).alloc (.cells Z 35):=⟨_,rfl⟩
 have g0:w3.heap[w.heap.size]?=some (.cells L 47 (0,0)):=by rw[hw3];exact AQ (AQ (heap_alloc_new _ _) _) _
 have g1:w3.heap[w.heap.size+1]?=some (.cells R 35 (0,0)):=by
  rw[hw3];refine AQ ?_ _;have:=heap_alloc_new (w.alloc (.cells L 47)) (.cells R 35);simpa using this
 have g2:w3.heap[w.heap.size+1+1]?=some (.cells Z 35 (0,0)):=by
  rw[hw3,BG];simp
 have hs3:w3.heap.size=w.heap.size+1+1+1:=by rw[hw3];simp
 have hc3:Ch (fun _=>False) w w3:=by rw[hw3];exact(((Ch.refl _ _).alloc _).alloc _).alloc _
 have hp:Jz (w3.drew.alloc (.cells #[.slice (some ⟨w.heap.size,0,none⟩) 32 32,.slice (some ⟨w.heap.size+1,0,none⟩) 32 32] 29)) (.slice (some ⟨w3.heap.size,0,none⟩) 2 2) [l,r]:=by
  have hcx:Ch (fun _=>False) w3 (w3.drew.alloc (.cells #[.slice (some ⟨w.heap.size,0,none⟩) 32 32,.slice (some ⟨w.heap.size+1,0,none⟩) 32 32] 29)):=(Ch.refl _ _).drew.alloc _;have hrow:=heap_alloc_new w3.drew (.cells #[.slice (some ⟨w.heap.size,0,none⟩) 32 32,.slice (some ⟨w.heap.size+1,0,none⟩) 32 32] 29);rw[hL] at g0;rw[hR] at g1;have b0:=(Bytes.row g0 hl (by unfold maxLen;omega)).Ae hcx (fun _ _ h=>h);have b1:=(Bytes.row g1 hr (by unfold maxLen;omega)).Ae hcx (fun _ _ h=>h);refine⟨_,2,rfl,fun i p h=>?_⟩
  match i,h with
  | 0,h =>
   simp at h;subst h;exact⟨w3.heap.size,0,_,rfl,AH hrow rfl,b0,fun _ k hk=>by cases hk;simp;omega⟩
  | 1,h =>
   simp at h;subst h;exact⟨w3.heap.size,0,_,rfl,AH hrow rfl,b1,fun _ k hk=>by cases hk;simp;omega⟩
  | i+2,h=>simp at h
 have hcall:=Pz 1 hp (by simp[hl,hr]) (by simp);have hs0:∀w0:World,(Instr.sliceAt 47 (.pointer (some ⟨w.heap.size,0,none⟩)) none none none).run Tryz.prog w0=.ok (.slice (some ⟨w.heap.size,0,none⟩) 32 32) w0:=fun w0=>DS w0 47 32 (by kernel_rfl) (by kernel_rfl) (by kernel_rfl) _ _
 have hs1:∀w0:World,(Instr.sliceAt 35 (.pointer (some ⟨w.heap.size+1,0,none⟩)) none none none).run Tryz.prog w0=.ok (.slice (some ⟨w.heap.size+1,0,none⟩) 32 32) w0:=fun w0=>DS w0 35 32 (by kernel_rfl) (by kernel_rfl) (by kernel_rfl) _ _
 rw[←hO] at ho1;rw[show AS (digest 1 [l,r])=O from hO.symm] at hcall;rw[←hL, ←hR];have HC:=Lib.hid hcall;have HZ:=(hIq hzh hZs)
 have HO:=(hIq hO (aIq hos ho1))
 have G2:=(hIq g2 (aIq hs3 hc3))
 have W3:=Lib.hid hw3;clear hzh hZs hZ hO hos ho1 hcall hp hl hr g0 g1 g2 hs3 hc3 hw3 hL hR;go_enter Tryz.func50,Tryz.ntmps50;go_wp2_with (first|((with_reducible show zOq (.alloc 35));refine AO rfl 35 rfl (.agg Z) HZ.out.1 ?_;dsimp only[Value.cells];try simp only[World.size_alloc]));rw[←W3.out];go_still_tail 2,(by kernel_rfl)
 show wpList _ _ _ _ _ w3.drew
 go_wp2_with fail;refine HC.out.mono ?_;rintro e w4 ⟨rfl,hc4⟩;have hz4:=hc4.row (AQ (AM G2.out.1) _) id;have hw4:=(G2.out.2.2.drew.alloc (.cells #[.slice (some ⟨w.heap.size,0,none⟩) 32 32,.slice (some ⟨w.heap.size+1,0,none⟩) 32 32] 29)).trans hc4 (fun _=>fEq);have Z4:=Lib.hid hz4;have W4:=Lib.hid hw4;clear hc4 hz4 hw4
 go_wp2_with (first
  | ((with_reducible show zOq (.store 35 _ _));refine AI rfl 35 _ _ rfl (w.heap.size+1+1) 0 O rfl rfl Z4.out (by rw[C7,HO.out.2.1]) (by rw[HO.out.2.1,HZ.out.2];omega) HO.out.2.2 O (by rw[AT _ _ (by rw[Array.length_toList,Array.length_toList,HO.out.2.1,HZ.out.2])]) ?_))
 exact Af (p:=4) rfl rfl (AK Z4.out _) Tryz.underlying35 rfl (by rw[C7,HO.out.2.1]) rfl ⟨by rw[HO.out.1],W4.out.setRow (.inr (by omega)) _⟩
theorem KJ (l r:List UInt8) (hl:l.length=32) (hr:r.length=32) (w:World):Calls Tryz.prog 53 #[.agg (AS l),.agg (AS r)] w fun e w'=>e=.returned (.agg (AS (GO l r)))∧Ch (fun _=>False) w w':=by
 obtain⟨Z,hZ⟩:∃Z,Z=AS (List.replicate 32 0):=⟨_,rfl⟩
 have hzh:=JQ;rw[←hZ] at hzh;have hZs:Z.size=32:=by rw[hZ];rfl
 obtain⟨O,hO⟩:∃O,O=AS (GO l r):=⟨_,rfl⟩
 have hos:O.size=32:=by rw[hO,AU];exact BM _ _
 have ho1:=BO (GO l r);obtain⟨L,hL⟩:∃L,L=AS l:=⟨_,rfl⟩
 obtain⟨R,hR⟩:∃R,R=AS r:=⟨_,rfl⟩
 obtain⟨w3,hw3⟩:∃w3,w3=((w.alloc (.cells L 35)).alloc (.cells R 35)).alloc (.cells Z 35):=⟨_,rfl⟩
 have g0:w3.heap[w.heap.size]?=some (.cells L 35 (0,0)):=by rw[hw3];exact AQ (AQ (heap_alloc_new _ _) _) _
 have g1:w3.heap[w.heap.size+1]?=some (.cells R 35 (0,0)):=by
  rw[hw3];refine AQ ?_ _;have:=heap_alloc_new (w.alloc (.cells L 35)) (.cells R 35);simpa using this
 have g2:w3.heap[w.heap.size+1+1]?=some (.cells Z 35 (0,0)):=by
  rw[hw3,BG];simp
 have hs3:w3.heap.size=w.heap.size+1+1+1:=by rw[hw3];simp
 have hc3:Ch (fun _=>False) w w3:=by rw[hw3];exact(((Ch.refl _ _).alloc _).alloc _).alloc _
 have hp:Jz (w3.drew.alloc (.cells #[.slice (some ⟨w.heap.size,0,none⟩) 32 32,.slice (some ⟨w.heap.size+1,0,none⟩) 32 32] 29)) (.slice (some ⟨w3.heap.size,0,none⟩) 2 2) [l,r]:=by
  have hcx:Ch (fun _=>False) w3 (w3.drew.alloc (.cells #[.slice (some ⟨w.heap.size,0,none⟩) 32 32,.slice (some ⟨w.heap.size+1,0,none⟩) 32 32] 29)):=(Ch.refl _ _).drew.alloc _;have hrow:=heap_alloc_new w3.drew (.cells #[.slice (some ⟨w.heap.size,0,none⟩) 32 32,.slice (some ⟨w.heap.size+1,0,none⟩) 32 32] 29);rw[hL] at g0;rw[hR] at g1;have b0:=(Bytes.row g0 hl (by unfold maxLen;omega)).Ae hcx (fun _ _ h=>h);have b1:=(Bytes.row g1 hr (by unfold maxLen;omega)).Ae hcx (fun _ _ h=>h);refine⟨_,2,rfl,fun i p h=>?_⟩
  match i,h with
  | 0,h =>
   simp at h;subst h;exact⟨w3.heap.size,0,_,rfl,AH hrow rfl,b0,fun _ k hk=>by cases hk;simp;omega⟩
  | 1,h =>
   simp at h;subst h;exact⟨w3.heap.size,0,_,rfl,AH hrow rfl,b1,fun _ k hk=>by cases hk;simp;omega⟩
  | i+2,h=>simp at h
 have hcall:=Pz 2 hp (by simp[hl,hr]) (by simp);have hs0:∀w0:World,(Instr.sliceAt 35 (.pointer (some ⟨w.heap.size,0,none⟩)) none none none).run Tryz.prog w0=.ok (.slice (some ⟨w.heap.size,0,none⟩) 32 32) w0:=fun w0=>DS w0 35 32 (by kernel_rfl) (by kernel_rfl) (by kernel_rfl) _ _
 have hs1:∀w0:World,(Instr.sliceAt 35 (.pointer (some ⟨w.heap.size+1,0,none⟩)) none none none).run Tryz.prog w0=.ok (.slice (some ⟨w.heap.size+1,0,none⟩) 32 32) w0:=fun w0=>DS w0 35 32 (by kernel_rfl) (by kernel_rfl) (by kernel_rfl) _ _
 rw[←hO] at ho1;rw[show AS (digest 2 [l,r])=O from hO.symm] at hcall;rw[←hL, ←hR];have HC:=Lib.hid hcall;have HZ:=(hIq hzh hZs)
 have HO:=(hIq hO (aIq hos ho1))
 have G2:=(hIq g2 (aIq hs3 hc3))
 have W3:=Lib.hid hw3;clear hzh hZs hZ hO hos ho1 hcall hp hl hr g0 g1 g2 hs3 hc3 hw3 hL hR;go_enter Tryz.func53,Tryz.ntmps53;go_wp2_with (first|((with_reducible show zOq (.alloc 35));refine AO rfl 35 rfl (.agg Z) HZ.out.1 ?_;dsimp only[Value.cells];try simp only[World.size_alloc]));rw[←W3.out];go_still_tail 2,(by kernel_rfl)
 show wpList _ _ _ _ _ w3.drew
 go_wp2_with fail;refine HC.out.mono ?_;rintro e w4 ⟨rfl,hc4⟩;have hz4:=hc4.row (AQ (AM G2.out.1) _) id;have hw4:=(G2.out.2.2.drew.alloc (.cells #[.slice (some ⟨w.heap.size,0,none⟩) 32 32,.slice (some ⟨w.heap.size+1,0,none⟩) 32 32] 29)).trans hc4 (fun _=>fEq);have Z4:=Lib.hid hz4;have W4:=Lib.hid hw4;clear hc4 hz4 hw4
 go_wp2_with (first
  | ((with_reducible show zOq (.store 35 _ _));refine AI rfl 35 _ _ rfl (w.heap.size+1+1) 0 O rfl rfl Z4.out (by rw[C7,HO.out.2.1]) (by rw[HO.out.2.1,HZ.out.2];omega) HO.out.2.2 O (by rw[AT _ _ (by rw[Array.length_toList,Array.length_toList,HO.out.2.1,HZ.out.2])]) ?_))
 exact Af (p:=4) rfl rfl (AK Z4.out _) Tryz.underlying35 rfl (by rw[C7,HO.out.2.1]) rfl ⟨by rw[HO.out.1],W4.out.setRow (.inr (by omega)) _⟩
end Go.Proofs.YtngbdbpofifimaaGreat.Tag

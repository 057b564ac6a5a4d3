/- Laws of the layers below. -/
import Derived.Test.YtooijgcildbnlaaGreatQg11
import Derived.OwnWalk
import Derived.Laws.BytesArg
set_option maxHeartbeats 3200000
set_option maxRecDepth 100000
set_option linter.unusedVariables false
namespace Go.Proofs.YtooijgcildbnlaaGreat.Store
open Go.RowKit Go.Proofs.YtooijgcildbnlaaGreat.ShaW Go.Proofs.YtooijgcildbnlaaGreat.Path
theorem _root_.Go.World.ownsRow.base {w:World} {b b' n sz:Nat} {e:TypeId} {v:Value} {xs:List Value} (h:w.ownsRow b e sz v n xs) (hb:∀k,v.ownBlock=some k→b'≤k):w.ownsRow b' e sz v n xs:=by
 refine⟨h.1,h.2.imp id fun ⟨g,cap,cur,h1,h2,h3⟩=>⟨g,cap,cur,h1,hb g (by rw[h1];rfl),h3⟩⟩
theorem M7 {α:Type} {σ:AD α} {z:α} {n:Int} {m:Nat} {y:α} {c:Nat} (h:(σ.drop z n).2.2.slots[m]?=some (y,c)):y=z∨∃c',σ.slots[m]?=some (y,c'):=by
 unfold AD.drop at h;cases hs:σ.get? n with
 | none=>rw[hs] at h;exact .inr ⟨c,h⟩
 | some x =>
  rw[hs] at h;obtain⟨m',rfl,hx,_,hl⟩:=AD.Ag hs;simp only at h;split at h
  · simp only[AD.setAt,show((m':Int)+1-1).toNat=m' by omega] at h
    by_cases hm:m'=m
    · subst hm;rw[List.getElem?_set_self hl] at h;cases h;exact .inl rfl
    rw[List.getElem?_set_ne hm] at h;exact .inr ⟨c,h⟩
  simp only[AD.setAt,show((m':Int)+1-1).toNat=m' by omega] at h;by_cases hm:m'=m
  · subst hm;rw[List.getElem?_set_self hl] at h;cases h;exact .inr ⟨x.2,hx⟩
  rw[List.getElem?_set_ne hm] at h;exact .inr ⟨c,h⟩
theorem Ls {w:World} {s:Nat} {F:Nat→Prop} {σ:AD Nd} (h:At w s F σ) (n:Int) :
 ∃a,w.heap[s]?=some (.cells #[.pointer (some ⟨a,0,none⟩)] 165 (0,0)) ∧
  Calls Tryz.prog 87 #[.pointer (some ⟨a,0,none⟩),.int .i64 n] w fun e w'=>e=.returned (.tuple #[.bool (σ.drop Nd.zero n).1,.int .i64 (σ.drop Nd.zero n).2.1])∧BO w w' s F (σ.drop Nd.zero n).2.2:=by
 obtain⟨a,G,h1,h2,h3,h4,h5,h6⟩:=h;refine⟨a,h1,?_⟩;have hc:=SlabN.MD h2 n;rw[Nd.NU,AD.map_drop] at hc;refine hc.mono fun e w' ⟨he,hm⟩=>⟨he,lift h1 h4 h5 h6 hm fun m y c hs=>?_⟩
 rcases M7 hs with rfl|⟨c',hs'⟩
 · exact⟨Nd.BA,Bytes.nil w,fun k hk=>by simp[Nd.zero,Value.ownBlock] at hk⟩
 exact h3 m y c' hs'
def il (l:List Int):List Value:=l.map fun n=>Value.int .i64 n
def Mid (w:World) (s:Nat) (F:Nat→Prop) (goal:Nat×AD Nd) (g:Nat) (v8 v9:Value) (wr:World):Prop :=
 ∃(σ:AD Nd) (st:List Int) (f:Nat) (F':Nat→Prop),g=3*total σ+st.length∧v8=.int .i64 (f:Nat)∧wr.ownsRow w.heap.size 3 1 v9 st.length (il st.reverse) ∧
  At wr s F' σ∧(∀k,F' k→F k∨w.heap.size≤k)∧(∀k,v9.ownBlock=some k→¬F' k)∧Ch F w wr∧sweep σ st f=goal∧st.length+live σ≤65537∧f+live σ≤65537
def Stk (w:World) (s:Nat) (F:Nat→Prop) (σ:AD Nd) (st:List Int) (v:Value) (wx:World):Prop :=
 ∃F2,wx.ownsRow w.heap.size 3 1 v st.length (il st.reverse)∧At wx s F2 σ∧(∀k,F2 k→F k∨w.heap.size≤k)∧(∀k,v.ownBlock=some k→¬F2 k)∧Ch F w wx
theorem Stk.owns {w wx:World} {s:Nat} {F:Nat→Prop} {σ:AD Nd} {st:List Int} {v:Value} (h:Stk w s F σ st v wx):wx.ownsRow w.heap.size 3 1 v st.length (il st.reverse)∧w.heap.size≤wx.heap.size:=by
 obtain⟨F2,h1,_,_,_,h5⟩:=h;exact⟨h1,h5.size⟩
theorem Stk.push {w wx w':World} {s:Nat} {F:Nat→Prop} {σ:AD Nd} {st:List Int} {v v':Value} {o:Obj} {x:Int} (h:Stk w s F σ st v wx)
 (ho:w'.ownsRow w.heap.size 3 1 v' (st.length+1) (il st.reverse ++ [.int .i64 x])) (hg:(wx.alloc o).grownBy w' v.ownBlock) (hl:v'.ownBlock=v.ownBlock∨v'.ownBlock=some (wx.alloc o).heap.size):Stk w s F σ (x::st) v' w':=by
 obtain⟨F2,h1,h2,h3,h4,h5⟩:=h;have hc:Ch (fun k=>v.ownBlock=some k) wx w':=((Ch.refl (fun k=>v.ownBlock=some k) wx).alloc o).grown hg (fun k hk=>.inl hk);refine⟨F2,?_,h2.Am hc (fun k hk e=>h4 k e hk),h3,fun k hk hf=>?_,(h5.alloc o).grown hg (fun k hk=>.inr (h1.lt k hk).1)⟩
 · rw[List.length_cons,List.reverse_cons]
   simpa[il] using ho
 rcases hl with hl|hl
 · exact h4 k (by rw[←hl];exact hk) hf
 obtain⟨_,_,_,_,_,_,_,q6⟩:=h2;have:=q6 k hf;rw[hl] at hk;simp at hk;omega
theorem Stk.Np {w w5 w6:World} {s:Nat} {F F':Nat→Prop} {σ2:AD Nd} {st:List Int} {v:Value} (ho:w5.ownsRow w.heap.size 3 1 v st.length (il st.reverse)) (hm:BO w5 w6 s F' σ2) (hF:∀k,F' k→F k∨w.heap.size≤k)
 (hv:∀k,v.ownBlock=some k→¬F' k) (hc:Ch F w w5):Stk w s F σ2 st v w6:=by
 obtain⟨F2,g1,g2,g3⟩:=hm;refine⟨F2,g2.owns ho (fun k hk hf=>hv k hk hf),g1,fun k hk=>(g3 k hk).elim (hF k) (fun h=>.inr (Nat.le_trans hc.size h)),fun k hk hf=>?_,hc.trans g2 hF⟩;rcases g3 k hf with h|h
 · exact hv k hk h
 have:=(ho.lt k hk).2;omega
theorem Stk.mid {w wx:World} {s:Nat} {F:Nat→Prop} {σ:AD Nd} {st:List Int} {v:Value} {goal:Nat×AD Nd} {f:Nat} (h:Stk w s F σ st v wx) (hs:sweep σ st f=goal) (h1:st.length+live σ≤65537) (h2:f+live σ≤65537) :
 Mid w s F goal (3*total σ+st.length) (.int .i64 (f:Nat)) v wx:=by
 obtain⟨F2,q1,q2,q3,q4,q5⟩:=h;exact⟨σ,st,f,F2,rfl,rfl,q1,q2,q3,q4,q5,hs,h1,h2⟩
theorem L6 (x y:Int) (w:World):(Instr.index 167 (.agg #[.int .i64 x,.int .i64 y]) (.int .i64 0)).run Tryz.prog w=.ok (.int .i64 x) w∧(Instr.index 167 (.agg #[.int .i64 x,.int .i64 y]) (.int .i64 1)).run Tryz.prog w=.ok (.int .i64 y) w:=by
 constructor<;>kernel_rfl
def FH (r l:Int) (st:List Int):Nat→List Int
 | 0=>st
 | 1=>(if r=0 then [] else [r])++st
 | _=>(if l=0 then [] else [l])++((if r=0 then [] else [r])++st)
theorem LA (r l:Int) (st:List Int):∀k,(FH r l st k).length≤st.length+2
 | 0=>by simp[FH]
 | 1=>by
  show((if r=0 then [] else [r])++st).length≤_
  rw[List.length_append];split<;>simp<;>omega
 | k+2=>by
  show((if l=0 then [] else [l])++((if r=0 then [] else [r])++st)).length≤_
  rw[List.length_append,List.length_append];split<;>split<;>simp<;>omega
theorem SU {w:World} {s:Nat} {F:Nat→Prop} {σ:AD Nd} (h:At w s F σ) (n:Int) (hb:has σ n=false) :
 Calls Tryz.prog 23 #[.pointer (some ⟨s,0,none⟩),.int .i64 n] w fun e w'=>e=.returned (.tuple #[.int .i64 0,.int .i64 7])∧Adds w w':=by
 have hg:=CT h n;obtain⟨N,Z,hN,hn,hz⟩:=told h n;rw[←hN,hb] at hg;obtain⟨a,G,h1,_⟩:=h;have HR:=Lib.hid h1;have HG:=Lib.hid hg;have HN:=Lib.hid hn;have HZ:=Lib.hid hz;clear hg hN hn hz h1 hb;go_enter Tryz.func23,Tryz.ntmps23;go_wp2_with fail;refine(As HR.out).mono ?_;rintro e w1 ⟨rfl,rfl⟩;go_wp2_with fail;refine HG.out.mono ?_;rintro e w1 ⟨rfl,hc1⟩;have C1:=Lib.hid hc1;clear hc1;go_wp2_with (first|((with_reducible show zOq (.alloc 159));refine AH rfl 159 rfl (.agg Z) HZ.out.1 ?_;dsimp only[Value.cells];try simp only[World.size_alloc])|((with_reducible show zOq (.store 159 (.tmp 6) _));go_must (refine AE rfl 159 _ _ rfl w1.heap.size 0 N rfl rfl (heap_alloc_new _ _) (by rw[BX,HN.out.1]) (by rw[HN.out.1,HZ.out.2];omega) HN.out.2 N (by rw[AI _ _ (by rw[Array.length_toList,Array.length_toList,HN.out.1,HZ.out.2])]) ?_)));go_ret2;exact⟨rfl,(C1.out.alloc _).setRow (.inr C1.out.size) _⟩
theorem Pk {w:World} {s:Nat} {F:Nat→Prop} {σ:AD Nd} (h:At w s F σ) (n:Int) (hb:has σ n=true) (h0:(nd σ n).held=0) :
 Calls Tryz.prog 23 #[.pointer (some ⟨s,0,none⟩),.int .i64 n] w fun e w'=>e=.returned (.tuple #[.int .i64 0,.int .i64 7])∧Adds w w':=by
 have hok:=h.ok n;have hg:=CT h n;obtain⟨N,Z,hN,hn,hz⟩:=told h n;rw[←hN,hb] at hg;have k0:N[102]?=some (.int .i64 0):=by rw[hN, ←h0];exact Nd.G7 hok
 obtain⟨a,G,h1,_⟩:=h;have HR:=Lib.hid h1;have HG:=Lib.hid hg;have HN:=Lib.hid hn;have HZ:=Lib.hid hz;clear hg hN hn hz h1 hb hok h0;go_enter Tryz.func23,Tryz.ntmps23;go_wp2_with fail;refine(As HR.out).mono ?_;rintro e w1 ⟨rfl,rfl⟩;go_wp2_with fail;refine HG.out.mono ?_;rintro e w1 ⟨rfl,hc1⟩;have c0:=AG (AF (heap_alloc_new w1 (.cells Z 159)) N) k0;have C1:=Lib.hid hc1;clear hc1 k0;go_wp2_with (first|((with_reducible show zOq (.alloc 159));refine AH rfl 159 rfl (.agg Z) HZ.out.1 ?_;dsimp only[Value.cells];try simp only[World.size_alloc])|((with_reducible show zOq (.store 159 (.tmp 6) _));go_must (refine AE rfl 159 _ _ rfl w1.heap.size 0 N rfl rfl (heap_alloc_new _ _) (by rw[BX,HN.out.1]) (by rw[HN.out.1,HZ.out.2];omega) HN.out.2 N (by rw[AI _ _ (by rw[Array.length_toList,Array.length_toList,HN.out.1,HZ.out.2])]) ?_)));go_ret2;exact⟨rfl,(C1.out.alloc _).setRow (.inr C1.out.size) _⟩
theorem WJ {w:World} {s:Nat} {F:Nat→Prop} {σ:AD Nd} (h:At w s F σ) (n:Int) (hb:has σ n=true) (h0:(nd σ n).held≠0) :
 Calls Tryz.prog 23 #[.pointer (some ⟨s,0,none⟩),.int .i64 n] w fun e w'=>e=.returned (.tuple #[.int .i64 ((sweep (bump σ n (-1)) [n] 0).1:Nat),.int .i64 0])∧BO w w' s F (sweep (bump σ n (-1)) [n] 0).2:=by
 have hok:=h.ok n;have hg:=CT h n;obtain⟨N,Z,hN,hn,hz⟩:=told h n;rw[←hN,hb] at hg;have k0:N[102]?=some (.int .i64 (nd σ n).held):=by rw[hN];exact Nd.G7 hok
 have e1:((nd σ n).held == 0)=false:=by simpa using h0
 have e2:decide ((nd σ n).held=0)=false:=by simpa using h0
 generalize (nd σ n).held=hd at k0 e1 e2;obtain⟨goal,hgoal⟩:∃goal,goal=sweep (bump σ n (-1)) [n] 0:=⟨_,rfl⟩
 rw[←hgoal];obtain⟨i0,hi,hz0,hz1,hz2⟩:=SlabN.FU;have hA:=h;obtain⟨a,G,h1,h2,h3,h4,h5,h6⟩:=h;have hFw:∀k,F k→k<w.heap.size:=h6;have HR:=Lib.hid h1;have HG:=Lib.hid hg;have HN:=Lib.hid hn;have HZ:=Lib.hid hz;have HA:=Lib.hid hA;have HGO:=Lib.hid hgoal;have HF:=Lib.hid hFw;have HI:=(hIq hi (aIq hz0 (aIq hz1 hz2)))
 clear hg hN hn hz hb hok h0 hA hgoal h1 h2 h3 h4 h5 h6 hFw hi hz0 hz1 hz2;go_enter Tryz.func23,Tryz.ntmps23;go_wp2_with fail;refine(As HR.out).mono ?_;rintro e w1 ⟨rfl,rfl⟩;go_wp2_with fail;refine HG.out.mono ?_;rintro e w1 ⟨rfl,hc1⟩;have c0:=AG (AF (heap_alloc_new w1 (.cells Z 159)) N) k0;have C1:=Lib.hid hc1;clear hc1 k0;go_wp2_with (first|((with_reducible show zOq (.alloc 159));refine AH rfl 159 rfl (.agg Z) HZ.out.1 ?_;dsimp only[Value.cells];try simp only[World.size_alloc])|((with_reducible show zOq (.store 159 (.tmp 6) _));go_must (refine AE rfl 159 _ _ rfl w1.heap.size 0 N rfl rfl (heap_alloc_new _ _) (by rw[BX,HN.out.1]) (by rw[HN.out.1,HZ.out.2];omega) HN.out.2 N (by rw[AI _ _ (by rw[Array.length_toList,Array.length_toList,HN.out.1,HZ.out.2])]) ?_)));have hw2:Adds w ((w1.alloc (.cells Z 159)).setRow w1.heap.size N):=(C1.out.alloc _).setRow (.inr C1.out.size) _;refine(GJ (HA.out.adds hw2) n (-1)).mono ?_;rintro e w3 ⟨⟨v3,rfl⟩,hm3⟩;have hm3':=BO.cons (hw2.mono (G:=F) (fun _ _ h=>h.elim)) (fun k hk=>.inl hk) hm3;obtain⟨F3,hA3,hC3,hF3⟩:=hm3';have M3:=(hIq hA3 (aIq hC3 hF3))
 clear hm3 hA3 hC3 hF3 hw2 c0;clear e1 e2;go_wp2;go_loopg [8,9] (3*total (bump σ n (-1))+1) (fun g s8 s9 wr=>Mid w s F goal g s8 s9 wr)
 case atStart =>
  have hsz:=M3.out.2.1.size;have hl:=M3.out.1.len;have hr:=M3.out.1.room;have hlv:=Vd (bump σ n (-1));refine⟨bump σ n (-1),[n],0,F3,rfl,rfl,?_,(M3.out.1.Am ((Ch.refl (fun _=>False) w3).alloc _) (fun _ _ h=>h)),M3.out.2.2,fun k hk hf=>?_,M3.out.2.1.alloc _,HGO.out.symm,?_,?_⟩
  · exact(CE (heap_alloc_new _ _) (by decide) (by decide) rfl rfl).base (fun k hk=>by simp[Value.ownBlock] at hk;omega)
  · obtain⟨_,_,_,_,_,_,_,q6⟩:=M3.out.1
    have:=q6 k hf;simp[Value.ownBlock] at hk;omega
  · simp;omega
  simp;omega
 obtain⟨σ',st,f,F',rfl,rfl,hown,hA,hF,hO,hC,hS,hB1,hB2⟩:=hrel;cases st with
 | nil =>
  obtain⟨ao,cap,rfl⟩:=Ar hown;rw[CK] at hS;subst hS;have HM:=(hIq hA (aIq hC hF))
  clear hown hA hC hF hO hB1 hB2 HGO;simp only[List.length_nil];go_wp2;go_ret2;exact⟨rfl,F',HM.out.1,HM.out.2.1,HM.out.2.2⟩
 | cons h' rest =>
  obtain⟨g,cap,cur,rfl,hg1,hg2,hg3,hg4,hg5⟩:=BZ hown (by simp);have hcell:wr.cell? ⟨g,rest.length,none⟩=some (.int .i64 h'):=AG hg1 (DH hg5 (by simp[il]));have hgw:=hown.lt g rfl;have hgF:=hO g rfl
  have hown':wr.ownsRow w.heap.size 3 1 (.slice (some ⟨g,0,none⟩) rest.length cap) rest.length (il rest.reverse):=by
   refine(CE hg1 (by simp at hg2;omega) hg3 hg4 ?_).base (fun k hk=>by simp[Value.ownBlock] at hk;omega);have:=congrArg (List.take (rest.length*1)) hg5;rw[List.take_take,Nat.min_eq_left (by simp)] at this;rw[this];simp[il]
  have hok':=hA.ok h';have hgt:=CT hA h';obtain⟨N',Z',hN',hn',hz'⟩:=told hA h';rw[←hN'] at hgt;have kr:N'[100]?=some (.int .i64 (nd σ' h').right):=by rw[hN'];exact Nd.EJ hok'
  have kl:N'[99]?=some (.int .i64 (nd σ' h').left):=by rw[hN'];exact Nd.E6 hok'
  obtain⟨a0,hrow0,_⟩:=Ls hA h';have c0:=AG hrow0 (i:=0) rfl;have HAr:=Lib.hid hA;have HGt:=Lib.hid hgt;have HN':=Lib.hid hn';have HZ':=Lib.hid hz';have HS:=Lib.hid hS;have HFF:=(hIq hF (aIq hgw hgF))
  have HC:=Lib.hid hC;have HB:=(hIq hB1 hB2)
  have HOW:=Lib.hid hown';have hfb:(f:Int)≤65537:=by omega
  have hfb':f≤65537:=by omega
  have hlb:rest.length≤65537:=by simp at hB1;omega
  have hlb':(rest.length:Int)≤65537:=by omega
  have hwk:IntKind.i64.wrap (rest.length:Int)=rest.length:=IntWalk.i64_in _ (by omega);clear hA hF hO hC hS hB1 hB2 hown hown' hok' hgt hN' hn' hz' hg1 hg3 hg4 hg5 hgw hgF hrow0;have KR:=(hIq kr kl)
  clear kr kl;obtain⟨m,hm⟩:∃m,m=rest.length:=⟨_,rfl⟩
  simp only[List.length_cons] at hg2 ⊢;rw[←hm] at hcell hlb hlb' hwk hg2 ⊢;have HM:=Lib.hid hm;clear hm;go_wp2_with fail;refine HGt.out.mono ?_;rintro e w4 ⟨rfl,hc4⟩;have hw5:Adds wr ((w4.alloc (.cells Z' 159)).setRow w4.heap.size N'):=(hc4.alloc _).setRow (.inr hc4.size) _;have hA5:=HAr.out.adds hw5;obtain⟨a5,hr5,hd5⟩:=Ls hA5 h';have c5:=AG hr5 (i:=0) rfl;have hN5:=AF (heap_alloc_new w4 (.cells Z' 159)) N';have hbnd:=P8 (σ:=σ') (h:=h') (rest:=rest) HB.out.1;have hC5:=HC.out.trans hw5 (fun _=>fEq);have hown5:=hw5.owns HOW.out (fun _ _ h=>h);have hsz4:=hc4.size;have hgw4:g<w4.heap.size:=Nat.lt_of_lt_of_le HFF.out.2.1.2 hc4.size;have K5:=(hIq hN5 (aIq hC5 hown5))
  have BB:=Lib.hid hbnd;have D5:=Lib.hid hd5;clear hc4 hw5 hA5 hr5 hd5 hN5 hbnd hC5 hown5 c0
  go_wp2_with (first
   | ((with_reducible show zOq (.alloc 159));refine AH rfl 159 rfl (.agg Z') HZ'.out.1 ?_;dsimp only[Value.cells];try simp only[World.size_alloc])
   | ((with_reducible show zOq (.store 159 (.tmp 11) _));go_must (refine AE rfl 159 _ _ rfl w4.heap.size 0 N' rfl rfl (heap_alloc_new _ _) (by rw[BX,HN'.out.1]) (by rw[HN'.out.1,HZ'.out.2];omega) HN'.out.2 N' (by rw[AI _ _ (by rw[Array.length_toList,Array.length_toList,HN'.out.1,HZ'.out.2])]) ?_)))
  cases hd:(σ'.drop Nd.zero h').1 with
  | false =>
   rw[hd] at D5 BB;have hsk:=CB (rest:=rest) (f:=f) hd;have hls:=Ja (σ:=σ') (h:=h') (rest:=rest);have hlv:=Gx hd;obtain⟨σ2,hσ2⟩:∃σ2,σ2=(σ'.drop Nd.zero h').2.2:=⟨_,rfl⟩
   rw[←hσ2] at hsk hls D5 BB hlv;have SK:=(hIq hsk (aIq hls hlv))
   clear hsk hls hd hσ2 hlv;refine D5.out.mono ?_;rintro e w6 ⟨rfl,hm6⟩;have M6:=Lib.hid hm6;clear hm6;go_wp2;go_roundg (3*total σ2+rest.length)
   case measure=>exact SK.out.2.1
   refine(Stk.Np (st:=rest) ?_ M6.out HFF.out.1 ?_ K5.out.2.1).mid (by rw[←SK.out.1];exact HS.out) (BB.out.2 trivial) ?_
   · rw[HM.out];exact K5.out.2.2
   · intro k hk;cases hk;exact HFF.out.2.2
   have:=SK.out.2.2;have:=HB.out.2;omega
  | true =>
   rw[hd] at D5 BB;have hsk:=CG (rest:=rest) (f:=f) hd;have hls:=KT (rest:=rest) hd;have hlv:=Gs hd;obtain⟨σ2,hσ2⟩:∃σ2,σ2=(σ'.drop Nd.zero h').2.2:=⟨_,rfl⟩
   rw[←hσ2] at hsk hls D5 BB hlv;obtain⟨nr,hnr⟩:∃nr,nr=(nd σ' h').right:=⟨_,rfl⟩
   obtain⟨nl,hnl⟩:∃nl,nl=(nd σ' h').left:=⟨_,rfl⟩
   have hpp:pile (nd σ' h') rest=FH nr nl rest 2:=by rw[hnr,hnl];rfl
   rw[←hnr, ←hnl] at KR;rw[hpp] at hsk hls BB;have SK:=(hIq hsk (aIq hls hlv))
   clear hsk hls hd hσ2 hlv hnr hnl hpp;refine D5.out.mono ?_;rintro e w6 ⟨rfl,hm6⟩;have hst:=Stk.Np (st:=rest) (v:=.slice (some ⟨g,0,none⟩) m cap) (by rw[HM.out];exact K5.out.2.2) hm6 HFF.out.1 (fun k hk=>by cases hk;exact HFF.out.2.2) K5.out.2.1
   have hN6:w6.heap[w4.heap.size]?=some (.cells N' 159 (0,0)):=by
    obtain⟨F6,p1,p2,p3⟩:=hm6;refine p2.row K5.out.1 (fun hf=>?_);obtain⟨_,_,_,_,_,_,_,q6⟩:=HAr.out;have:=q6 _ hf;omega
   have ST:=Lib.hid hst;have cR:=AG hN6 KR.out.1;have cL:=AG hN6 KR.out.2;clear hm6 hst hN6 KR;go_wp2;go_loopg [9,75] 2 (fun g9 s9 s75 wx=>∃k:Nat,k≤2∧g9=2-k∧s75=.int .i64 k∧Stk w s F σ2 (FH nr nl rest k) s9 wx)
   case atStart=>exact⟨0,by omega,rfl,rfl,ST.out⟩
   obtain⟨k,hk,rfl,rfl,hst⟩:=hrel;have hln:(FH nr nl rest k).length≤65539:=by have h1:=LA nr nl rest k;have h2:=HM.out;omega
   have ST:=Lib.hid hst;have hix:=fun w0=>(L6 nr nl w0).1
   have hiy:=fun w0=>(L6 nr nl w0).2
   clear hst;rcases (by omega:k=0∨k=1∨k=2) with rfl|rfl|rfl
   · by_cases hx:nr=0
     · subst hx
       go_wp2;go_roundg 1
       case measure=>omega
       exact⟨1,by omega,rfl,by go_num,by simpa[FH] using ST.out⟩
     have e3:(nr != 0)=true:=by simpa using hx
     have e4:decide (nr=0)=false:=by simpa using hx
     go_wp2_with (first
      | (at_builtin;refine wpList_append_own_at _ rfl _ _ 39 rfl w.heap.size 3 i0 (.int .i64 0) 1 8 Tryz.underlying39 HI.out.1 HI.out.2.1 HI.out.2.2.1 HI.out.2.2.2 rfl (by decide) u9 _ _ rfl (ST.out.owns.1.alloc _) ⟨wr.heap.size,0,none⟩ 1 1 [.int .i64 nr] rfl rfl (cell_one_new _ _ _) (by simp[Value.oneCell']) (by unfold maxLen;omega) (by omega) (by have:=ST.out.owns.2;simp;omega) ?_;intro v' w7 hown' hgrow hnil hloc;have P7:=Lib.hid (ST.out.push hown' hgrow hloc);clear hown' hgrow hnil hloc))
     go_roundg 1
     case measure=>omega
     exact⟨1,by omega,rfl,by go_num,by simpa[FH,hx] using P7.out⟩
   · by_cases hx:nl=0
     · subst hx
       go_wp2;go_roundg 0
       case measure=>omega
       exact⟨2,by omega,rfl,by go_num,by simpa[FH] using ST.out⟩
     have e3:(nl != 0)=true:=by simpa using hx
     have e4:decide (nl=0)=false:=by simpa using hx
     go_wp2_with (first
      | (at_builtin;refine wpList_append_own_at _ rfl _ _ 39 rfl w.heap.size 3 i0 (.int .i64 0) 1 8 Tryz.underlying39 HI.out.1 HI.out.2.1 HI.out.2.2.1 HI.out.2.2.2 rfl (by decide) u9 _ _ rfl (ST.out.owns.1.alloc _) ⟨wr.heap.size,0,none⟩ 1 1 [.int .i64 nl] rfl rfl (cell_one_new _ _ _) (by simp[Value.oneCell']) (by unfold maxLen;omega) (by omega) (by have:=ST.out.owns.2;simp;omega) ?_;intro v' w7 hown' hgrow hnil hloc;have P7:=Lib.hid (ST.out.push hown' hgrow hloc);clear hown' hgrow hnil hloc))
     go_roundg 0
     case measure=>omega
     exact⟨2,by omega,rfl,by go_num,by simpa[FH,hx] using P7.out⟩
   go_wp2;go_roundg (3*total σ2+(FH nr nl rest 2).length)
   case measure=>exact SK.out.2.1
   have hlv:=SK.out.2.2;have hB:=HB.out.2;have:=ST.out.mid (goal:=goal) (f:=f+1) (by rw[←SK.out.1];exact HS.out) (BB.out.1 trivial) (by omega);have e:IntKind.i64.wrap ((f:Int)+1)=((f+1:Nat):Int):=by rw[IntWalk.i64_in _ (by omega)];omega
   first
    | exact this
    | (rw[e];exact this)
    | (simpa[e] using this)
theorem MD {w:World} {s:Nat} {F:Nat→Prop} {σ:AD Nd} (h:At w s F σ) (n:Int) :
 Calls Tryz.prog 23 #[.pointer (some ⟨s,0,none⟩),.int .i64 n] w fun e w'=>e=.returned (.tuple #[.int .i64 (BJ σ n).1,.int .i64 (BJ σ n).2.1])∧BO w w' s F (BJ σ n).2.2:=by
 unfold BJ;by_cases hc:has σ n=true∧(nd σ n).held≠0
 · rw[if_pos hc];exact WJ h n hc.1 hc.2
 rw[if_neg hc];cases hb:has σ n with
 | false=>exact(SU h n hb).mono fun e w' ⟨he,ha⟩=>⟨he,BO.same h ha⟩
 | true =>
  have h0:(nd σ n).held=0:=Classical.byContradiction fun hx=>hc ⟨hb,hx⟩
  exact(Pk h n hb h0).mono fun e w' ⟨he,ha⟩=>⟨he,BO.same h ha⟩
def Own (w0 w:World) (s:Nat) (σ:AD Nd):Prop:=∃F,At w s F σ∧(∀k,F k→w0.heap.size≤k)∧Adds w0 w
variable {w0 w w' : World} {s : Nat} {σ σ' : AD Nd}
def PK (b:UInt8):List UInt8:=b::List.replicate 31 0
noncomputable def LV (σ:AD Nd) (k:List UInt8) (d:Int) (own other:Int):Int×Int×AD Nd:=Af σ d (if bit k d=1 then other else own) (if bit k d=1 then own else other)
noncomputable def chainS (k:List UInt8) (lo:Nat):Nat→AD Nd→Int→Int×AD Nd
 | 0,σ,now=>(now,σ)
 | n+1,σ,now=>chainS k lo n (LV σ k (lo+n:Nat) now 0).2.2 (LV σ k (lo+n:Nat) now 0).1
def Ju (σ:AD Nd) (k:List UInt8) (h:Int) (d:Nat):Int:=if bit k (d:Nat)=1 then (nd σ h).left else (nd σ h).right
noncomputable def WR (σ:AD Nd) (o:Int):AD Nd:=if o≠0 then (Bl σ o).2 else σ
noncomputable def YA (σ:AD Nd) (k:List UInt8) (h:Int) (d:Nat) (now:Int):Int×AD Nd :=
 ((LV (WR σ (Ju σ k h d)) k (d:Nat) now (Ju σ k h d)).1,(LV (WR σ (Ju σ k h d)) k (d:Nat) now (Ju σ k h d)).2.2)
noncomputable def upL (k:List UInt8):Nat→List Int→AD Nd→Int→Int×AD Nd
 | _,[],σ,now=>(now,σ)
 | d,h::l,σ,now=>YA (upL k (d+1) l σ now).2 k h d (upL k (d+1) l σ now).1
noncomputable def Xj (σ:AD Nd) (key value:List UInt8) (v:Value) (d:Nat) (e:Int):Int×AD Nd :=
 if (nd σ e).kind=1∧(nd σ e).key≠key then
  chainS key d (common key (nd σ e).key-d) (LV (Bl (BU σ key value v).2.2 e).2 key (common key (nd σ e).key:Nat) (BU σ key value v).1 e).2.2 (LV (Bl (BU σ key value v).2.2 e).2 key (common key (nd σ e).key:Nat) (BU σ key value v).1 e).1
 else ((BU σ key value v).1,(BU σ key value v).2.2)
noncomputable def Ut (σ:AD Nd) (key value:List UInt8) (v:Value) (l:List Int) (e:Int):Int×AD Nd :=
 upL key 0 l (Xj σ key value v l.length e).2 (Xj σ key value v l.length e).1
noncomputable def Xw (σ:AD Nd) (root:Int) (key value:List UInt8) (v:Value) (l:List Int) (e:Int):Int×AD Nd :=
 ((Ut σ key value v l e).1,if root≠0 then (BJ (Ut σ key value v l e).2 root).2.2 else (Ut σ key value v l e).2)
def Uf (σ:AD Nd) (key value:List UInt8) (e:Int):Bool:=decide ((nd σ e).kind=1)&&(decide ((nd σ e).key=key)&&decide ((nd σ e).value=value))
def YP (σ:AD Nd) (key:List UInt8) (e:Int):Bool:=decide ((nd σ e).kind=1)&&decide ((nd σ e).key≠key)
def Ou (σ:AD Nd) (root:Int):Int:=if An σ root≠0 then An σ root else if root≠0∧(nd σ root).held=0 then 7 else 0
section
variable {σ : AD Nd}
def Yu (σ:AD Nd) (h:Int):Prop:=h=0∨(1≤held σ h∧((nd σ h).kind=2→(nd σ h).depth=0))
end
section
variable {σ0 σ τ : AD Nd} {key : List UInt8} {now other : Int} {d n : Nat} {t u : Tr}
structure Ya (σ0 σ:AD Nd) (key:List UInt8) (now:Int) (d:Nat) (t:Tr) (n:Nat):Prop where
 good:Good σ
 old:∀k x,sk σ0 k=some x→sk σ k=some x∧held σ k=held σ0 k
 fresh:sk σ0 now=none
 there:∃y,sk σ now=some y∧Pre y.key key d
 one:held σ now=1
 only:∀k,1≤held σ k→k=now∨1≤held σ0 k
 rep:Rep (sk σ) now d t
 live:live σ=live σ0+n
 total:total σ≤total σ0+2*n
 room:σ.room=σ0.room
def YN (σ0:AD Nd) (key:List UInt8) (d:Nat) (t:Tr) (other:Int) (u:Tr):Prop :=
 (other=0∧u=.nil∧t.isNode=true)∨∃y,sk σ0 other=some y∧Rep (sk σ0) other (d+1) u∧Pre y.key key d∧BE y.key d≠BE key d
def WC (σ:AD Nd) (key:List UInt8) (d:Nat) (e:Int):Nat:=if (nd σ e).kind=1∧(nd σ e).key≠key then common key (nd σ e).key-d+2 else 1
structure Yt (σ0 σ:AD Nd) (root r:Int) (t:Tr) (n:Nat):Prop where
 good:Good σ
 rep:Rep (sk σ) r 0 t
 ne:r≠0
 mine:held σ r=1
 only:∀k,1≤held σ k→k=r∨(1≤held σ0 k∧(k=root→2≤held σ0 k))
 fresh:sk σ0 r=none
 others:∀k,k≠root→1≤held σ0 k→sk σ k=sk σ0 k∧held σ k=held σ0 k
 self:2≤held σ0 root→sk σ root=sk σ0 root∧held σ root=held σ0 root-1
 live:live σ≤live σ0+n
 total:total σ≤total σ0+2*n
 room:σ.room=σ0.room
 keeps:∀k d t,k≠root→1≤held σ0 k→Rep (sk σ0) k d t→Rep (sk σ) k d t
def V2 (σ:AD Nd) (key:List UInt8) (l:List Int) (e:Int):Nat:=WC σ key l.length e+l.length
end
abbrev Bi:=List (List UInt8×List UInt8)
def DE (b d:Nat) (L:Bi):Bi:=L.filter (fun p=>BE p.1 d == b)
def tree:Nat→Bi→Tr
 | _,[]=>.nil
 | _,[p]=>.leaf p.1 p.2
 | 0,_::_::_=>.nil
 | m+1,p::q::R=>.node (tree m (DE 0 (255-m) (p::q::R))) (tree m (DE 1 (255-m) (p::q::R)))
def VZ (L:Bi) (k:List UInt8):Bi:=L.filter (fun p => !(p.1 == k))
def upd (L:Bi) (k v:List UInt8):Bi:=(k,v)::VZ L k
def Dz (L:Bi):List (List UInt8):=L.map (·.1)
theorem NM (m:Nat):tree m []=.nil:=by cases m<;>rfl
theorem KQ (m:Nat) (p:List UInt8×List UInt8):tree m [p]=.leaf p.1 p.2:=by cases m<;>rfl
theorem Gb {m:Nat} {L:Bi} (h:2≤L.length):tree (m+1) L=.node (tree m (DE 0 (255-m) L)) (tree m (DE 1 (255-m) L)):=by
 match L,h with
 | p::q::R,_=>rfl
theorem Sc:∀(m:Nat) {L L':Bi},L.Perm L'→tree m L=tree m L':=by
 intro m
 induction m with
 | zero =>
  intro L L' h
  match L,L',h,h.length_eq with
  | [],[],_,_=>rfl
  | [p],[q],h,_=>rw[List.perm_singleton.1 h]
  | _::_::_,_::_::_,_,_=>rfl
 | succ m ih =>
  intro L L' h
  match L,L',h,h.length_eq with
  | [],[],_,_=>rfl
  | [p],[q],h,_=>rw[List.perm_singleton.1 h]
  | p::q::R,p'::q'::R',h,_ =>
   rw[Gb (by simp),Gb (by simp)];have h0:(DE 0 (255-m) (p::q::R)).Perm (DE 0 (255-m) (p'::q'::R')):=h.filter _;have h1:(DE 1 (255-m) (p::q::R)).Perm (DE 1 (255-m) (p'::q'::R')):=h.filter _;rw[ih h0,ih h1]
theorem Ml {a b:List UInt8} (ha:a.length=32) (hb:b.length=32) (h:Pre a b 256):a=b:=by
 by_cases e:a=b
 · exact e
 obtain⟨h1,h2,h3⟩:=ER a b (by omega) e;exact absurd (h _ (by omega)) h3
structure Bi.Ok (L:Bi) (k:List UInt8) (d:Nat):Prop where
 nodup:(Dz L).Nodup
 len:∀p∈L,p.1.length=32
 pre:∀p∈L,Pre p.1 k d
variable {L : Bi} {k v : List UInt8} {d m : Nat}
theorem keys_filter (L:Bi) (f:List UInt8×List UInt8→Bool):(Dz (L.filter f)).Sublist (Dz L):=(List.filter_sublist).map _
theorem Bi.Ok.filter (h:L.Ok k d) (f:List UInt8×List UInt8→Bool):Bi.Ok (L.filter f) k d:=⟨h.nodup.sublist (keys_filter L f),fun p hp=>h.len p ((List.mem_filter.1 hp).1),fun p hp=>h.pre p ((List.mem_filter.1 hp).1)⟩
theorem Bi.Ok.side (h:L.Ok k d):Bi.Ok (DE (BE k d) d L) k (d+1):=by
 refine⟨(h.filter _).nodup,(h.filter _).len,fun p hp=>(h.pre p ((List.mem_filter.1 hp).1)).next ?_⟩;have:=(List.mem_filter.1 hp).2;simpa using this
theorem Bi.Ok.few (h:L.Ok k 256):L.length≤1:=by
 match L,h with
 | [],_=>simp
 | [p],_=>simp
 | p::q::R,h =>
  exfalso;have e:=Ml (h.len p (by simp)) (h.len q (by simp)) ((h.pre p (by simp)).trans (h.pre q (by simp)).symm);have:=h.nodup;simp[Dz,e] at this
def Tr.nodes:Tr→Nat
 | .nil=>0
 | .leaf _ _=>1
 | .node l r=>l.nodes+r.nodes+1
def Tr.leaves:Tr→Nat
 | .nil=>0
 | .leaf _ _=>1
 | .node l r=>l.leaves+r.leaves
def reach (f:View):Nat→Int→List Int
 | 0,_ => []
 | m+1,h=>match f h with
  | none => []
  | some n=>h::(if n.kind=2 then reach f m n.left++reach f m n.right else [])
variable {f : View} {h : Int} {d m : Nat} {t : Tr}
theorem Rep.size (hf:Fit f) (hr:Rep f h d t):(ndF f h).size=wrap64 (t.leaves:Nat):=by
 induction hr with
 | nil=>unfold ndF;rw[hf.zero];show(0:Int)=wrap64 ((0:Nat):Int);unfold wrap64;omega
 | leaf hn hk =>
  rw[By hn,(hf.leaf hn (by omega)).2.size]
  show(1:Int)=wrap64 ((1:Nat):Int)
  unfold wrap64;omega
 | @node h d n l r hn hk _ _ _ ihl ihr =>
  rw[By hn,(hf.inner hn hk).size,ihl,ihr];have e:((Tr.node l r).leaves:Int)=(l.leaves:Int)+(r.leaves:Int):=Int.natCast_add _ _;rw[e];generalize (l.leaves:Int)=a;generalize (r.leaves:Int)=b;unfold wrap64;omega
section
variable {w0 w w' : World} {s : Nat} {σ : AD Nd} {F G : Nat→Prop}
def Ow (w0 w:World) (s:Nat) (σ:AD Nd) (G:Nat→Prop):Prop:=∃F,At w s F σ∧(∀k,F k→w0.heap.size≤k)∧Adds w0 w∧∀k,G k→¬F k∧k<w.heap.size
abbrev But (G:Nat→Prop) (w w':World):Prop:=Ch (fun k=>¬G k) w w'
theorem But.row {g:Nat} {o:Obj} (h:But G w w') (hg:w.heap[g]?=some o) (hG:G g):w'.heap[g]?=some o:=Ch.row h hg (fun hn=>hn hG)
theorem Ow.GO {σ':AD Nd} (h1:At w s F σ) (h2:∀k,F k→w0.heap.size≤k) (h3:Adds w0 w) (h4:∀k,G k→¬F k∧k<w.heap.size) (hm:BO w w' s F σ'):Ow w0 w' s σ' G∧But G w w':=by
 obtain⟨F',g1,g2,g3⟩:=hm;refine⟨⟨F',g1,fun k hk=>(g3 k hk).elim (h2 k) (fun h=>Nat.le_trans h3.size h),h3.trans g2 (fun k hk=>.inr (h2 k hk)),fun k hk=>?_⟩,g2.mono (fun k _ hf hg=>(h4 k hg).1 hf)⟩;obtain⟨p,q⟩:=h4 k hk;exact⟨fun hf=>(g3 k hf).elim p (fun h=>by omega),Nat.lt_of_lt_of_le q g2.size⟩
theorem Ow.leaf (h:Ow w0 w s σ G) (key:List UInt8) (hk:key.length=32) {vv:Value} {bs:List UInt8} (hb:Bytes w vv bs) (hv:bs ≠ []→∀k,vv.ownBlock=some k→k<w.heap.size) :
 Calls Tryz.prog 174 #[.pointer (some ⟨s,0,none⟩),.agg (AJ key),vv] w fun e w'=>∃v,e=.returned (.tuple #[.int .i64 (BU σ key bs v).1,.int .i64 (BU σ key bs v).2.1])∧Ow w0 w' s (BU σ key bs v).2.2 G∧But G w w':=by
 obtain⟨F,h1,h2,h3,h4⟩:=h;exact(Jo h1 key hk hb hv).mono fun e w' ⟨v,he,hm⟩=>⟨v,he,Ow.GO h1 h2 h3 h4 hm⟩
theorem Ow.inner (h:Ow w0 w s σ G) (d l r:Int) :
 Calls Tryz.prog 176 #[.pointer (some ⟨s,0,none⟩),.int .i64 d,.int .i64 l,.int .i64 r] w fun e w'=>e=.returned (.tuple #[.int .i64 (Af σ d l r).1,.int .i64 (Af σ d l r).2.1])∧Ow w0 w' s (Af σ d l r).2.2 G∧But G w w':=by
 obtain⟨F,h1,h2,h3,h4⟩:=h;exact(Ie h1 d l r).mono fun e w' ⟨he,hm⟩=>⟨he,Ow.GO h1 h2 h3 h4 hm⟩
theorem Ow.hold (h:Ow w0 w s σ G) (n:Int) :
 Calls Tryz.prog 119 #[.pointer (some ⟨s,0,none⟩),.int .i64 n] w fun e w'=>e=.returned (.int .i64 (Bl σ n).1)∧Ow w0 w' s (Bl σ n).2 G∧But G w w':=by
 obtain⟨F,h1,h2,h3,h4⟩:=h;exact(Me h1 n).mono fun e w' ⟨he,hm⟩=>⟨he,Ow.GO h1 h2 h3 h4 hm⟩
theorem Ow.drop (h:Ow w0 w s σ G) (n:Int) :
 Calls Tryz.prog 23 #[.pointer (some ⟨s,0,none⟩),.int .i64 n] w fun e w'=>e=.returned (.tuple #[.int .i64 (BJ σ n).1,.int .i64 (BJ σ n).2.1])∧Ow w0 w' s (BJ σ n).2.2 G∧But G w w':=by
 obtain⟨F,h1,h2,h3,h4⟩:=h;exact(MD h1 n).mono fun e w' ⟨he,hm⟩=>⟨he,Ow.GO h1 h2 h3 h4 hm⟩
end
section
variable {w : World} {s : Nat} {σ : AD Nd} {F : Nat→Prop}
def hl (l:List Int):List Value:=l.map fun n=>Value.int .i64 n
theorem XC {h:Int} {n:Nd} (hn:sk σ h=some n):has σ h=true∧(nd σ h).kind=n.kind∧(nd σ h).depth=n.depth∧(nd σ h).left=n.left∧(nd σ h).right=n.right∧(nd σ h).key=n.key∧(nd σ h).value=n.value:=by
 obtain⟨x,hx,rfl⟩:=Gc hn;rw[Ay hx];exact⟨Bq hx,rfl,rfl,rfl,rfl,rfl,rfl⟩
theorem Va (G:Good σ) (key:List UInt8) {root:Int} (hr:An σ root=0):∃t l e,Rep (sk σ) root 0 t∧On (sk σ) key root 0 l e∧l.length≤256:=by
 have hroot:root=0∨∃n,sk σ root=some n∧(n.kind=2→n.depth=(0:Nat)):=by
  unfold An at hr;by_cases h0:root=0
  · exact .inl h0
  right;rw[if_neg h0] at hr;cases hx:σ.get? root with
  | none=>rw[DK hx] at hr;simp at hr
  | some x =>
   rw[Bq hx,Ay hx] at hr;refine⟨_,BV hx,fun hk=>?_⟩;have hk':x.1.kind=2:=hk;by_cases hd:x.1.depth=0
   · exact hd
   simp[hk',hd] at hr
 obtain⟨t,ht⟩:=Rep.ex G.fit 256 0 root rfl hroot;obtain⟨l,e,ho⟩:=On.ex (k:=key) ht;exact⟨t,l,e,ht,ho,by have:=ho.len G.fit (by omega);omega⟩
end
section
variable {w0 w : World} {s : Nat} {σ : AD Nd} {F G : Nat→Prop}
def Xz (σ:AD Nd) (j:Int):Bool:=decide (0≤j)&&(decide (j≤64)&&decide ((σ.used:Int)+258*j≤σ.room))
end
theorem Ar {w:World} {b e n sz:Nat} {v:Value} {xs:List Value} (h:w.ownsRow b e sz v n xs):∃ao cap,v=.slice ao n cap:=by
 obtain⟨_,h⟩:=h;rcases h with⟨rfl,rfl⟩|⟨g,cap,cur,rfl,_⟩
 · exact⟨_,_,rfl⟩
 exact⟨_,_,rfl⟩
def Iy (bs:List UInt8):ByteArray:=⟨bs.toArray⟩
theorem U2 (a b:List UInt8):((Iy a).toList == (Iy b).toList)=decide (a=b):=by
 rw[ByteArray.toList_eq,ByteArray.toList_eq];by_cases h:a=b
 · subst h;simp
 rw[decide_eq_false h];simpa[Iy] using h
theorem Et {w:World} {v:Value} {bs:List UInt8} (h:Bytes w v bs):(convert 73 9 v).run Tryz.prog w=.ok (.string (Iy bs)) w:=by
 obtain⟨ao,cap,rfl,h2,h3,h4⟩:=h;rw[run_convert_bytes_string w 73 9 5 ao bs.length cap Tryz.underlying73 Tryz.underlying5 Tryz.underlying9];cases ao with
 | none =>
  cases bs with
  | nil=>simp[Conv.bytesToString];rfl
  | cons x bs=>obtain⟨g,off,h,_⟩:=h4 0 x rfl;cases h
 | some a =>
  have hl:(loadCells a bs.length).run Tryz.prog w=.ok ((bs.map fun b=>(b.toNat:Int)).map (Value.int .u8)).toArray w:=by
   have:=run_loadCells_list (P:=Tryz.prog) w a (bs.map bv) (fun j v hj=>by
    simp only[List.getElem?_map,Option.map_eq_some_iff] at hj;obtain⟨x,hx,rfl⟩:=hj;obtain⟨g,off,ha,hc⟩:=h4 j x hx;cases ha;rw[add_plain];exact hc)
   rw[List.length_map] at this;rw[this,List.map_map];rfl
  rw[run_bytesToString w a bs.length cap _ hl,foldl_push_bytes];simp only[List.map_map]
  have e:(List.map ((fun n:Int=>UInt8.ofNat n.toNat) ∘ fun b:UInt8=>(b.toNat:Int)) bs)=bs:=by
   rw[show((fun n:Int=>UInt8.ofNat n.toNat) ∘ fun b:UInt8=>(b.toNat:Int))=id from funext fun b=>by simp];exact List.map_id bs
  rw[e]
  first
   | (simp[Iy,ByteArray.empty,ByteArray.emptyWithCapacity];done)
   | (simp[Iy,ByteArray.empty,ByteArray.emptyWithCapacity];rfl)
theorem GC {P:Program} {S:World→Prop} {Q:Exit→Act→World→Prop} {l:List Oper} {n i:Nat} {r:List (Nat×Bool)} {a:Act} {w:World} {o:Oper} (ho:l[i]?=some o) (hw:Region.wanted o (yielded l.toArray a.tmps)=true) (t1 t2:TypeId) (x:Operand) (u:Value) (hop:o.op=.convert t1 t2 x) (vx:Value) (hx:a.eval x=vx)
 (hy:∀w0,S w0→(convert t1 t2 vx).run P w0=.ok u w0) (h:Bg P l Q S n r (a.put o.dst u) w):Bg P l Q S n ((i,false)::r) a w :=
 plan_look ho hw (fun w0 hS=>by
  unfold execOp;simp only[hop,hx,Sem.run_bind,hy w0 hS,Result.andThen_ok];rfl) h
def YY (w w3:World) (ao:Option Addr) (cap:Nat) (l:List Int) (e1:Int) (K:Array Value) (x y:Bool):Prop :=
 w3.heap[w.heap.size+1]?=some (.cells #[.slice ao l.length cap,.int .i64 e1,.bool x,.bool y] 286 (0,0)) ∧
 w3.heap[w.heap.size]?=some (.cells K 24 (0,0))∧Adds w w3∧w3.ownsRow w.heap.size 3 1 (.slice ao l.length cap) l.length (hl l)∧∀k,(Value.slice ao l.length cap).ownBlock=some k→w.heap.size+2≤k

end Go.Proofs.YtooijgcildbnlaaGreat.Store

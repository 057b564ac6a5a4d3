/- Laws of the layers below. -/
import Derived.Test.YtngbdbpofifimaaGreatQm14
set_option maxHeartbeats 3200000
set_option maxRecDepth 100000
set_option linter.unusedVariables false
namespace Go.Proofs.YtngbdbpofifimaaGreat.Store
open Go.RowKit Go.Proofs.YtngbdbpofifimaaGreat.ShaW Go.Proofs.YtngbdbpofifimaaGreat.Path
theorem _root_.Go.World.ownsRow.base {w:World} {b b' n sz:Nat} {e:TypeId} {v:Value} {xs:List Value} (h:w.ownsRow b e sz v n xs) (hb:∀k,v.ownBlock=some k→b'≤k):w.ownsRow b' e sz v n xs:=by
 refine⟨h.1,h.2.imp id fun ⟨g,cap,cur,h1,h2,h3⟩=>⟨g,cap,cur,h1,hb g (by rw[h1];rfl),h3⟩⟩
theorem Ns {α:Type} {σ:AG α} {z:α} {n:Int} {m:Nat} {y:α} {c:Nat} (h:(σ.drop z n).2.2.slots[m]?=some (y,c)):y=z∨∃c',σ.slots[m]?=some (y,c'):=by
 unfold AG.drop at h;cases hs:σ.get? n with
 | none=>rw[hs] at h;exact .inr ⟨c,h⟩
 | some x =>
  rw[hs] at h;obtain⟨m',rfl,hx,_,hl⟩:=AG.Ac hs;simp only at h;split at h
  · simp only[AG.setAt,show((m':Int)+1-1).toNat=m' by omega] at h
    by_cases hm:m'=m
    · subst hm;rw[List.getElem?_set_self hl] at h;cases h;exact .inl rfl
    rw[List.getElem?_set_ne hm] at h;exact .inr ⟨c,h⟩
  simp only[AG.setAt,show((m':Int)+1-1).toNat=m' by omega] at h;by_cases hm:m'=m
  · subst hm;rw[List.getElem?_set_self hl] at h;cases h;exact .inr ⟨x.2,hx⟩
  rw[List.getElem?_set_ne hm] at h;exact .inr ⟨c,h⟩
theorem Ln {w:World} {s:Nat} {F:Nat→Prop} {σ:AG Nd} (h:At w s F σ) (n:Int) :
 ∃a,w.heap[s]?=some (.cells #[.pointer (some ⟨a,0,none⟩)] 174 (0,0)) ∧
  Calls Tryz.prog 91 #[.pointer (some ⟨a,0,none⟩),.int .i64 n] w fun e w'=>e=.returned (.tuple #[.bool (σ.drop Nd.zero n).1,.int .i64 (σ.drop Nd.zero n).2.1])∧BF w w' s F (σ.drop Nd.zero n).2.2:=by
 obtain⟨a,G,h1,h2,h3,h4,h5,h6⟩:=h;refine⟨a,h1,?_⟩;have hc:=SlabN.Ja h2 n;rw[Nd.NS,AG.map_drop] at hc;refine hc.mono fun e w' ⟨he,hm⟩=>⟨he,lift h1 h4 h5 h6 hm fun m y c hs=>?_⟩
 rcases Ns hs with rfl|⟨c',hs'⟩
 · exact⟨Nd.BP,Bytes.nil w,fun k hk=>by simp[Nd.zero,Value.ownBlock] at hk⟩
 exact h3 m y c' hs'
def il (l:List Int):List Value:=l.map fun n=>Value.int .i64 n
def Mid (w:World) (s:Nat) (F:Nat→Prop) (goal:Nat×AG Nd) (g:Nat) (v8 v9:Value) (wr:World):Prop :=
 ∃(σ:AG Nd) (st:List Int) (f:Nat) (F':Nat→Prop),g=3*total σ+st.length∧v8=.int .i64 (f:Nat)∧wr.ownsRow w.heap.size 3 1 v9 st.length (il st.reverse) ∧
  At wr s F' σ∧(∀k,F' k→F k∨w.heap.size≤k)∧(∀k,v9.ownBlock=some k→¬F' k)∧Ch F w wr∧sweep σ st f=goal∧st.length+live σ≤65537∧f+live σ≤65537
def Stk (w:World) (s:Nat) (F:Nat→Prop) (σ:AG Nd) (st:List Int) (v:Value) (wx:World):Prop :=
 ∃F2,wx.ownsRow w.heap.size 3 1 v st.length (il st.reverse)∧At wx s F2 σ∧(∀k,F2 k→F k∨w.heap.size≤k)∧(∀k,v.ownBlock=some k→¬F2 k)∧Ch F w wx
theorem Stk.owns {w wx:World} {s:Nat} {F:Nat→Prop} {σ:AG Nd} {st:List Int} {v:Value} (h:Stk w s F σ st v wx):wx.ownsRow w.heap.size 3 1 v st.length (il st.reverse)∧w.heap.size≤wx.heap.size:=by
 obtain⟨F2,h1,_,_,_,h5⟩:=h;exact⟨h1,h5.size⟩
theorem Stk.push {w wx w':World} {s:Nat} {F:Nat→Prop} {σ:AG Nd} {st:List Int} {v v':Value} {o:Obj} {x:Int} (h:Stk w s F σ st v wx)
 (ho:w'.ownsRow w.heap.size 3 1 v' (st.length+1) (il st.reverse ++ [.int .i64 x])) (hg:(wx.alloc o).grownBy w' v.ownBlock) (hl:v'.ownBlock=v.ownBlock∨v'.ownBlock=some (wx.alloc o).heap.size):Stk w s F σ (x::st) v' w':=by
 obtain⟨F2,h1,h2,h3,h4,h5⟩:=h;have hc:Ch (fun k=>v.ownBlock=some k) wx w':=((Ch.refl (fun k=>v.ownBlock=some k) wx).alloc o).grown hg (fun k hk=>.inl hk);refine⟨F2,?_,h2.Ae hc (fun k hk e=>h4 k e hk),h3,fun k hk hf=>?_,(h5.alloc o).grown hg (fun k hk=>.inr (h1.lt k hk).1)⟩
 · rw[List.length_cons,List.reverse_cons]
   simpa[il] using ho
 rcases hl with hl|hl
 · exact h4 k (by rw[←hl];exact hk) hf
 obtain⟨_,_,_,_,_,_,_,q6⟩:=h2;have:=q6 k hf;rw[hl] at hk;simp at hk;omega
theorem Stk.Nq {w w5 w6:World} {s:Nat} {F F':Nat→Prop} {σ2:AG Nd} {st:List Int} {v:Value} (ho:w5.ownsRow w.heap.size 3 1 v st.length (il st.reverse)) (hm:BF w5 w6 s F' σ2) (hF:∀k,F' k→F k∨w.heap.size≤k)
 (hv:∀k,v.ownBlock=some k→¬F' k) (hc:Ch F w w5):Stk w s F σ2 st v w6:=by
 obtain⟨F2,g1,g2,g3⟩:=hm;refine⟨F2,g2.owns ho (fun k hk hf=>hv k hk hf),g1,fun k hk=>(g3 k hk).elim (hF k) (fun h=>.inr (Nat.le_trans hc.size h)),fun k hk hf=>?_,hc.trans g2 hF⟩;rcases g3 k hf with h|h
 · exact hv k hk h
 have:=(ho.lt k hk).2;omega
theorem Stk.mid {w wx:World} {s:Nat} {F:Nat→Prop} {σ:AG Nd} {st:List Int} {v:Value} {goal:Nat×AG Nd} {f:Nat} (h:Stk w s F σ st v wx) (hs:sweep σ st f=goal) (h1:st.length+live σ≤65537) (h2:f+live σ≤65537) :
 Mid w s F goal (3*total σ+st.length) (.int .i64 (f:Nat)) v wx:=by
 obtain⟨F2,q1,q2,q3,q4,q5⟩:=h;exact⟨σ,st,f,F2,rfl,rfl,q1,q2,q3,q4,q5,hs,h1,h2⟩
theorem Lh (x y:Int) (w:World):(Instr.index 176 (.agg #[.int .i64 x,.int .i64 y]) (.int .i64 0)).run Tryz.prog w=.ok (.int .i64 x) w∧(Instr.index 176 (.agg #[.int .i64 x,.int .i64 y]) (.int .i64 1)).run Tryz.prog w=.ok (.int .i64 y) w:=by
 constructor<;>kernel_rfl
def Ez (r l:Int) (st:List Int):Nat→List Int
 | 0=>st
 | 1=>(if r=0 then [] else [r])++st
 | _=>(if l=0 then [] else [l])++((if r=0 then [] else [r])++st)
theorem Ku (r l:Int) (st:List Int):∀k,(Ez r l st k).length≤st.length+2
 | 0=>by simp[Ez]
 | 1=>by
  show((if r=0 then [] else [r])++st).length≤_
  rw[List.length_append];split<;>simp<;>omega
 | k+2=>by
  show((if l=0 then [] else [l])++((if r=0 then [] else [r])++st)).length≤_
  rw[List.length_append,List.length_append];split<;>split<;>simp<;>omega
theorem RF {w:World} {s:Nat} {F:Nat→Prop} {σ:AG Nd} (h:At w s F σ) (n:Int) (hb:has σ n=false) :
 Calls Tryz.prog 31 #[.pointer (some ⟨s,0,none⟩),.int .i64 n] w fun e w'=>e=.returned (.tuple #[.int .i64 0,.int .i64 7])∧AN w w':=by
 have hg:=Cu h n;obtain⟨N,Z,hN,hn,hz⟩:=told h n;rw[←hN,hb] at hg;obtain⟨a,G,h1,_⟩:=h;have HR:=Lib.hid h1;have HG:=Lib.hid hg;have HN:=Lib.hid hn;have HZ:=Lib.hid hz;clear hg hN hn hz h1 hb;go_enter Tryz.func31,Tryz.ntmps31;go_wp2_with fail;refine(An HR.out).mono ?_;rintro e w1 ⟨rfl,rfl⟩;go_wp2_with fail;refine HG.out.mono ?_;rintro e w1 ⟨rfl,hc1⟩;have C1:=Lib.hid hc1;clear hc1;go_wp2_with (first|((with_reducible show zOq (.alloc 168));refine AO rfl 168 rfl (.agg Z) HZ.out.1 ?_;dsimp only[Value.cells];try simp only[World.size_alloc])|((with_reducible show zOq (.store 168 (.tmp 6) _));go_must (refine AI rfl 168 _ _ rfl w1.heap.size 0 N rfl rfl (heap_alloc_new _ _) (by rw[BW,HN.out.1]) (by rw[HN.out.1,HZ.out.2];omega) HN.out.2 N (by rw[AT _ _ (by rw[Array.length_toList,Array.length_toList,HN.out.1,HZ.out.2])]) ?_)));go_ret2;exact⟨rfl,(C1.out.alloc _).setRow (.inr C1.out.size) _⟩
theorem Oe {w:World} {s:Nat} {F:Nat→Prop} {σ:AG Nd} (h:At w s F σ) (n:Int) (hb:has σ n=true) (h0:(nd σ n).held=0) :
 Calls Tryz.prog 31 #[.pointer (some ⟨s,0,none⟩),.int .i64 n] w fun e w'=>e=.returned (.tuple #[.int .i64 0,.int .i64 7])∧AN w w':=by
 have hok:=h.ok n;have hg:=Cu h n;obtain⟨N,Z,hN,hn,hz⟩:=told h n;rw[←hN,hb] at hg;have k0:N[102]?=some (.int .i64 0):=by rw[hN, ←h0];exact Nd.GY hok
 obtain⟨a,G,h1,_⟩:=h;have HR:=Lib.hid h1;have HG:=Lib.hid hg;have HN:=Lib.hid hn;have HZ:=Lib.hid hz;clear hg hN hn hz h1 hb hok h0;go_enter Tryz.func31,Tryz.ntmps31;go_wp2_with fail;refine(An HR.out).mono ?_;rintro e w1 ⟨rfl,rfl⟩;go_wp2_with fail;refine HG.out.mono ?_;rintro e w1 ⟨rfl,hc1⟩;have c0:=AH (AK (heap_alloc_new w1 (.cells Z 168)) N) k0;have C1:=Lib.hid hc1;clear hc1 k0;go_wp2_with (first|((with_reducible show zOq (.alloc 168));refine AO rfl 168 rfl (.agg Z) HZ.out.1 ?_;dsimp only[Value.cells];try simp only[World.size_alloc])|((with_reducible show zOq (.store 168 (.tmp 6) _));go_must (refine AI rfl 168 _ _ rfl w1.heap.size 0 N rfl rfl (heap_alloc_new _ _) (by rw[BW,HN.out.1]) (by rw[HN.out.1,HZ.out.2];omega) HN.out.2 N (by rw[AT _ _ (by rw[Array.length_toList,Array.length_toList,HN.out.1,HZ.out.2])]) ?_)));go_ret2;exact⟨rfl,(C1.out.alloc _).setRow (.inr C1.out.size) _⟩
theorem U3 {w:World} {s:Nat} {F:Nat→Prop} {σ:AG Nd} (h:At w s F σ) (n:Int) (hb:has σ n=true) (h0:(nd σ n).held≠0) :
 Calls Tryz.prog 31 #[.pointer (some ⟨s,0,none⟩),.int .i64 n] w fun e w'=>e=.returned (.tuple #[.int .i64 ((sweep (bump σ n (-1)) [n] 0).1:Nat),.int .i64 0])∧BF w w' s F (sweep (bump σ n (-1)) [n] 0).2:=by
 have hok:=h.ok n;have hg:=Cu h n;obtain⟨N,Z,hN,hn,hz⟩:=told h n;rw[←hN,hb] at hg;have k0:N[102]?=some (.int .i64 (nd σ n).held):=by rw[hN];exact Nd.GY hok
 have e1:((nd σ n).held == 0)=false:=by simpa using h0
 have e2:decide ((nd σ n).held=0)=false:=by simpa using h0
 generalize (nd σ n).held=hd at k0 e1 e2;obtain⟨goal,hgoal⟩:∃goal,goal=sweep (bump σ n (-1)) [n] 0:=⟨_,rfl⟩
 rw[←hgoal];obtain⟨i0,hi,hz0,hz1,hz2⟩:=SlabN.DZ;have hA:=h;obtain⟨a,G,h1,h2,h3,h4,h5,h6⟩:=h;have hFw:∀k,F k→k<w.heap.size:=h6;have HR:=Lib.hid h1;have HG:=Lib.hid hg;have HN:=Lib.hid hn;have HZ:=Lib.hid hz;have HA:=Lib.hid hA;have HGO:=Lib.hid hgoal;have HF:=Lib.hid hFw;have HI:=(hIq hi (aIq hz0 (aIq hz1 hz2)))
 clear hg hN hn hz hb hok h0 hA hgoal h1 h2 h3 h4 h5 h6 hFw hi hz0 hz1 hz2;go_enter Tryz.func31,Tryz.ntmps31;go_wp2_with fail;refine(An HR.out).mono ?_;rintro e w1 ⟨rfl,rfl⟩;go_wp2_with fail;refine HG.out.mono ?_;rintro e w1 ⟨rfl,hc1⟩;have c0:=AH (AK (heap_alloc_new w1 (.cells Z 168)) N) k0;have C1:=Lib.hid hc1;clear hc1 k0;go_wp2_with (first|((with_reducible show zOq (.alloc 168));refine AO rfl 168 rfl (.agg Z) HZ.out.1 ?_;dsimp only[Value.cells];try simp only[World.size_alloc])|((with_reducible show zOq (.store 168 (.tmp 6) _));go_must (refine AI rfl 168 _ _ rfl w1.heap.size 0 N rfl rfl (heap_alloc_new _ _) (by rw[BW,HN.out.1]) (by rw[HN.out.1,HZ.out.2];omega) HN.out.2 N (by rw[AT _ _ (by rw[Array.length_toList,Array.length_toList,HN.out.1,HZ.out.2])]) ?_)));have hw2:AN w ((w1.alloc (.cells Z 168)).setRow w1.heap.size N):=(C1.out.alloc _).setRow (.inr C1.out.size) _;refine(Ff (HA.out.adds hw2) n (-1)).mono ?_;rintro e w3 ⟨⟨v3,rfl⟩,hm3⟩;have hm3':=BF.cons (hw2.mono (G:=F) (fun _ _ h=>h.elim)) (fun k hk=>.inl hk) hm3;obtain⟨F3,hA3,hC3,hF3⟩:=hm3';have M3:=(hIq hA3 (aIq hC3 hF3))
 clear hm3 hA3 hC3 hF3 hw2 c0;clear e1 e2;go_wp2;go_loopg [8,9] (3*total (bump σ n (-1))+1) (fun g s8 s9 wr=>Mid w s F goal g s8 s9 wr)
 case atStart =>
  have hsz:=M3.out.2.1.size;have hl:=M3.out.1.len;have hr:=M3.out.1.room;have hlv:=Un (bump σ n (-1));refine⟨bump σ n (-1),[n],0,F3,rfl,rfl,?_,(M3.out.1.Ae ((Ch.refl (fun _=>False) w3).alloc _) (fun _ _ h=>h)),M3.out.2.2,fun k hk hf=>?_,M3.out.2.1.alloc _,HGO.out.symm,?_,?_⟩
  · exact(B4 (heap_alloc_new _ _) (by decide) (by decide) rfl rfl).base (fun k hk=>by simp[Value.ownBlock] at hk;omega)
  · obtain⟨_,_,_,_,_,_,_,q6⟩:=M3.out.1
    have:=q6 k hf;simp[Value.ownBlock] at hk;omega
  · simp;omega
  simp;omega
 obtain⟨σ',st,f,F',rfl,rfl,hown,hA,hF,hO,hC,hS,hB1,hB2⟩:=hrel;cases st with
 | nil =>
  obtain⟨ao,cap,rfl⟩:=Am hown;rw[CK] at hS;subst hS;have HM:=(hIq hA (aIq hC hF))
  clear hown hA hC hF hO hB1 hB2 HGO;simp only[List.length_nil];go_wp2;go_ret2;exact⟨rfl,F',HM.out.1,HM.out.2.1,HM.out.2.2⟩
 | cons h' rest =>
  obtain⟨g,cap,cur,rfl,hg1,hg2,hg3,hg4,hg5⟩:=Bq hown (by simp);have hcell:wr.cell? ⟨g,rest.length,none⟩=some (.int .i64 h'):=AH hg1 (Dx hg5 (by simp[il]));have hgw:=hown.lt g rfl;have hgF:=hO g rfl
  have hown':wr.ownsRow w.heap.size 3 1 (.slice (some ⟨g,0,none⟩) rest.length cap) rest.length (il rest.reverse):=by
   refine(B4 hg1 (by simp at hg2;omega) hg3 hg4 ?_).base (fun k hk=>by simp[Value.ownBlock] at hk;omega);have:=congrArg (List.take (rest.length*1)) hg5;rw[List.take_take,Nat.min_eq_left (by simp)] at this;rw[this];simp[il]
  have hok':=hA.ok h';have hgt:=Cu hA h';obtain⟨N',Z',hN',hn',hz'⟩:=told hA h';rw[←hN'] at hgt;have kr:N'[100]?=some (.int .i64 (nd σ' h').right):=by rw[hN'];exact Nd.E8 hok'
  have kl:N'[99]?=some (.int .i64 (nd σ' h').left):=by rw[hN'];exact Nd.Ge hok'
  obtain⟨a0,hrow0,_⟩:=Ln hA h';have c0:=AH hrow0 (i:=0) rfl;have HAr:=Lib.hid hA;have HGt:=Lib.hid hgt;have HN':=Lib.hid hn';have HZ':=Lib.hid hz';have HS:=Lib.hid hS;have HFF:=(hIq hF (aIq hgw hgF))
  have HC:=Lib.hid hC;have HB:=(hIq hB1 hB2)
  have HOW:=Lib.hid hown';have hfb:(f:Int)≤65537:=by omega
  have hfb':f≤65537:=by omega
  have hlb:rest.length≤65537:=by simp at hB1;omega
  have hlb':(rest.length:Int)≤65537:=by omega
  have hwk:IntKind.i64.wrap (rest.length:Int)=rest.length:=IntWalk.i64_in _ (by omega);clear hA hF hO hC hS hB1 hB2 hown hown' hok' hgt hN' hn' hz' hg1 hg3 hg4 hg5 hgw hgF hrow0;have KR:=(hIq kr kl)
  clear kr kl;obtain⟨m,hm⟩:∃m,m=rest.length:=⟨_,rfl⟩
  simp only[List.length_cons] at hg2 ⊢;rw[←hm] at hcell hlb hlb' hwk hg2 ⊢;have HM:=Lib.hid hm;clear hm;go_wp2_with fail;refine HGt.out.mono ?_;rintro e w4 ⟨rfl,hc4⟩;have hw5:AN wr ((w4.alloc (.cells Z' 168)).setRow w4.heap.size N'):=(hc4.alloc _).setRow (.inr hc4.size) _;have hA5:=HAr.out.adds hw5;obtain⟨a5,hr5,hd5⟩:=Ln hA5 h';have c5:=AH hr5 (i:=0) rfl;have hN5:=AK (heap_alloc_new w4 (.cells Z' 168)) N';have hbnd:=PR (σ:=σ') (h:=h') (rest:=rest) HB.out.1;have hC5:=HC.out.trans hw5 (fun _=>fEq);have hown5:=hw5.owns HOW.out (fun _ _ h=>h);have hsz4:=hc4.size;have hgw4:g<w4.heap.size:=Nat.lt_of_lt_of_le HFF.out.2.1.2 hc4.size;have K5:=(hIq hN5 (aIq hC5 hown5))
  have BB:=Lib.hid hbnd;have D5:=Lib.hid hd5;clear hc4 hw5 hA5 hr5 hd5 hN5 hbnd hC5 hown5 c0
  go_wp2_with (first
   | ((with_reducible show zOq (.alloc 168));refine AO rfl 168 rfl (.agg Z') HZ'.out.1 ?_;dsimp only[Value.cells];try simp only[World.size_alloc])
   | ((with_reducible show zOq (.store 168 (.tmp 11) _));go_must (refine AI rfl 168 _ _ rfl w4.heap.size 0 N' rfl rfl (heap_alloc_new _ _) (by rw[BW,HN'.out.1]) (by rw[HN'.out.1,HZ'.out.2];omega) HN'.out.2 N' (by rw[AT _ _ (by rw[Array.length_toList,Array.length_toList,HN'.out.1,HZ'.out.2])]) ?_)))
  cases hd:(σ'.drop Nd.zero h').1 with
  | false =>
   rw[hd] at D5 BB;have hsk:=CD (rest:=rest) (f:=f) hd;have hls:=JG (σ:=σ') (h:=h') (rest:=rest);have hlv:=GX hd;obtain⟨σ2,hσ2⟩:∃σ2,σ2=(σ'.drop Nd.zero h').2.2:=⟨_,rfl⟩
   rw[←hσ2] at hsk hls D5 BB hlv;have SK:=(hIq hsk (aIq hls hlv))
   clear hsk hls hd hσ2 hlv;refine D5.out.mono ?_;rintro e w6 ⟨rfl,hm6⟩;have M6:=Lib.hid hm6;clear hm6;go_wp2;go_roundg (3*total σ2+rest.length)
   case measure=>exact SK.out.2.1
   refine(Stk.Nq (st:=rest) ?_ M6.out HFF.out.1 ?_ K5.out.2.1).mid (by rw[←SK.out.1];exact HS.out) (BB.out.2 trivial) ?_
   · rw[HM.out];exact K5.out.2.2
   · intro k hk;cases hk;exact HFF.out.2.2
   have:=SK.out.2.2;have:=HB.out.2;omega
  | true =>
   rw[hd] at D5 BB;have hsk:=CE (rest:=rest) (f:=f) hd;have hls:=Jo (rest:=rest) hd;have hlv:=Gh hd;obtain⟨σ2,hσ2⟩:∃σ2,σ2=(σ'.drop Nd.zero h').2.2:=⟨_,rfl⟩
   rw[←hσ2] at hsk hls D5 BB hlv;obtain⟨nr,hnr⟩:∃nr,nr=(nd σ' h').right:=⟨_,rfl⟩
   obtain⟨nl,hnl⟩:∃nl,nl=(nd σ' h').left:=⟨_,rfl⟩
   have hpp:pile (nd σ' h') rest=Ez nr nl rest 2:=by rw[hnr,hnl];rfl
   rw[←hnr, ←hnl] at KR;rw[hpp] at hsk hls BB;have SK:=(hIq hsk (aIq hls hlv))
   clear hsk hls hd hσ2 hlv hnr hnl hpp;refine D5.out.mono ?_;rintro e w6 ⟨rfl,hm6⟩;have hst:=Stk.Nq (st:=rest) (v:=.slice (some ⟨g,0,none⟩) m cap) (by rw[HM.out];exact K5.out.2.2) hm6 HFF.out.1 (fun k hk=>by cases hk;exact HFF.out.2.2) K5.out.2.1
   have hN6:w6.heap[w4.heap.size]?=some (.cells N' 168 (0,0)):=by
    obtain⟨F6,p1,p2,p3⟩:=hm6;refine p2.row K5.out.1 (fun hf=>?_);obtain⟨_,_,_,_,_,_,_,q6⟩:=HAr.out;have:=q6 _ hf;omega
   have ST:=Lib.hid hst;have cR:=AH hN6 KR.out.1;have cL:=AH hN6 KR.out.2;clear hm6 hst hN6 KR;go_wp2;go_loopg [9,75] 2 (fun g9 s9 s75 wx=>∃k:Nat,k≤2∧g9=2-k∧s75=.int .i64 k∧Stk w s F σ2 (Ez nr nl rest k) s9 wx)
   case atStart=>exact⟨0,by omega,rfl,rfl,ST.out⟩
   obtain⟨k,hk,rfl,rfl,hst⟩:=hrel;have hln:(Ez nr nl rest k).length≤65539:=by have h1:=Ku nr nl rest k;have h2:=HM.out;omega
   have ST:=Lib.hid hst;have hix:=fun w0=>(Lh nr nl w0).1
   have hiy:=fun w0=>(Lh nr nl w0).2
   clear hst;rcases (by omega:k=0∨k=1∨k=2) with rfl|rfl|rfl
   · by_cases hx:nr=0
     · subst hx
       go_wp2;go_roundg 1
       case measure=>omega
       exact⟨1,by omega,rfl,by go_num,by simpa[Ez] using ST.out⟩
     have e3:(nr != 0)=true:=by simpa using hx
     have e4:decide (nr=0)=false:=by simpa using hx
     go_wp2_with (first
      | (at_builtin;refine wpList_append_own_at _ rfl _ _ 61 rfl w.heap.size 3 i0 (.int .i64 0) 1 8 Tryz.underlying61 HI.out.1 HI.out.2.1 HI.out.2.2.1 HI.out.2.2.2 rfl (by decide) u9 _ _ rfl (ST.out.owns.1.alloc _) ⟨wr.heap.size,0,none⟩ 1 1 [.int .i64 nr] rfl rfl (cell_one_new _ _ _) (by simp[Value.oneCell']) (by unfold maxLen;omega) (by omega) (by have:=ST.out.owns.2;simp;omega) ?_;intro v' w7 hown' hgrow hnil hloc;have P7:=Lib.hid (ST.out.push hown' hgrow hloc);clear hown' hgrow hnil hloc))
     go_roundg 1
     case measure=>omega
     exact⟨1,by omega,rfl,by go_num,by simpa[Ez,hx] using P7.out⟩
   · by_cases hx:nl=0
     · subst hx
       go_wp2;go_roundg 0
       case measure=>omega
       exact⟨2,by omega,rfl,by go_num,by simpa[Ez] using ST.out⟩
     have e3:(nl != 0)=true:=by simpa using hx
     have e4:decide (nl=0)=false:=by simpa using hx
     go_wp2_with (first
      | (at_builtin;refine wpList_append_own_at _ rfl _ _ 61 rfl w.heap.size 3 i0 (.int .i64 0) 1 8 Tryz.underlying61 HI.out.1 HI.out.2.1 HI.out.2.2.1 HI.out.2.2.2 rfl (by decide) u9 _ _ rfl (ST.out.owns.1.alloc _) ⟨wr.heap.size,0,none⟩ 1 1 [.int .i64 nl] rfl rfl (cell_one_new _ _ _) (by simp[Value.oneCell']) (by unfold maxLen;omega) (by omega) (by have:=ST.out.owns.2;simp;omega) ?_;intro v' w7 hown' hgrow hnil hloc;have P7:=Lib.hid (ST.out.push hown' hgrow hloc);clear hown' hgrow hnil hloc))
     go_roundg 0
     case measure=>omega
     exact⟨2,by omega,rfl,by go_num,by simpa[Ez,hx] using P7.out⟩
   go_wp2;go_roundg (3*total σ2+(Ez nr nl rest 2).length)
   case measure=>exact SK.out.2.1
   have hlv:=SK.out.2.2;have hB:=HB.out.2;have:=ST.out.mid (goal:=goal) (f:=f+1) (by rw[←SK.out.1];exact HS.out) (BB.out.1 trivial) (by omega);have e:IntKind.i64.wrap ((f:Int)+1)=((f+1:Nat):Int):=by rw[IntWalk.i64_in _ (by omega)];omega
   first
    | exact this
    | (rw[e];exact this)
    | (simpa[e] using this)
theorem Ja {w:World} {s:Nat} {F:Nat→Prop} {σ:AG Nd} (h:At w s F σ) (n:Int) :
 Calls Tryz.prog 31 #[.pointer (some ⟨s,0,none⟩),.int .i64 n] w fun e w'=>e=.returned (.tuple #[.int .i64 (Aw σ n).1,.int .i64 (Aw σ n).2.1])∧BF w w' s F (Aw σ n).2.2:=by
 unfold Aw;by_cases hc:has σ n=true∧(nd σ n).held≠0
 · rw[if_pos hc];exact U3 h n hc.1 hc.2
 rw[if_neg hc];cases hb:has σ n with
 | false=>exact(RF h n hb).mono fun e w' ⟨he,ha⟩=>⟨he,BF.same h ha⟩
 | true =>
  have h0:(nd σ n).held=0:=Classical.byContradiction fun hx=>hc ⟨hb,hx⟩
  exact(Oe h n hb h0).mono fun e w' ⟨he,ha⟩=>⟨he,BF.same h ha⟩
def Own (w0 w:World) (s:Nat) (σ:AG Nd):Prop:=∃F,At w s F σ∧(∀k,F k→w0.heap.size≤k)∧AN w0 w
variable {w0 w w' : World} {s : Nat} {σ σ' : AG Nd}
def WD (b:UInt8):List UInt8:=b::List.replicate 31 0
end Go.Proofs.YtngbdbpofifimaaGreat.Store

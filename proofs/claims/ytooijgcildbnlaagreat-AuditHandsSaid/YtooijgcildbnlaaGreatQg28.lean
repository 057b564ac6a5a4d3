/- Laws of the layers below. -/
import Derived.Deep.OwnRows
import Derived.Test.YtooijgcildbnlaaGreatQg27
set_option maxHeartbeats 3200000
set_option maxRecDepth 100000
set_option linter.unusedVariables false
namespace Go.Proofs.YtooijgcildbnlaaGreat.Store
open Go.RowKit Go.Sort Go.Proofs.YtooijgcildbnlaaGreat.ShaW Go.Proofs.YtooijgcildbnlaaGreat.Path Go.Proofs.YtooijgcildbnlaaGreat.CI
def BM (w:World) (n0:Nat) (v:Value) (bs:List UInt8):Prop :=
 (v=.slice none 0 0∧bs = [])∨∃g c all,v=.slice (some ⟨g,0,none⟩) bs.length c∧n0≤g∧w.heap[g]?=some (.cells (AJ all) 5 (0,0))∧all.length=c∧all.take bs.length=bs∧c≤maxLen∧bs.length≤c
section
variable {w w' : World} {n0 n1 : Nat} {v : Value} {bs : List UInt8}
theorem BM.Am (h:BM w n0 v bs) {F:Nat→Prop} (c:Ch F w w') (hd:∀k,v.ownBlock=some k→¬F k):BM w' n0 v bs:=by
 rcases h with h|⟨g,cp,all,rfl,h1,h2,h3⟩
 · exact .inl h
 exact .inr ⟨g,cp,all,rfl,h1,c.row h2 (hd g rfl),h3⟩
theorem BM.base (h:BM w n0 v bs) (hb:∀k,v.ownBlock=some k→n1≤k):BM w n1 v bs:=by
 rcases h with h|⟨g,cp,all,rfl,h1,h2,h3⟩
 · exact .inl h
 exact .inr ⟨g,cp,all,rfl,hb g rfl,h2,h3⟩
theorem BM.lt (h:BM w n0 v bs):∀k,v.ownBlock=some k→n0≤k∧k<w.heap.size:=fun k hk=>by
 rcases h with⟨rfl,_⟩|⟨g,cp,all,rfl,h1,h2,_⟩
 · cases hk
 cases hk;exact⟨h1,Ad h2⟩
theorem Kz {all bs:List UInt8} {i:Nat} {x:UInt8} (h:all.take bs.length=bs) (hx:bs[i]?=some x):(AJ all)[i]?=some (bv x):=by
 have hi:=(List.getElem?_eq_some_iff.1 hx).1;have:all[i]?=some x:=by rw[←h,List.getElem?_take_of_lt hi] at hx;exact hx
 unfold AJ;rw[List.getElem?_toArray,List.getElem?_map,this];rfl
theorem BM.bytes (h:BM w n0 v bs):Bytes w v bs:=by
 rcases h with⟨rfl,rfl⟩|⟨g,cp,all,rfl,h1,h2,h3,h4,h5,h6⟩
 · exact Bytes.nil w
 exact⟨_,cp,rfl,h6,h5,fun j y hy=>⟨g,0,rfl,by rw[Nat.zero_add];exact AG h2 (Kz h4 hy)⟩⟩
end
theorem Jy (k:Nat):Builtin.zeroCells #[.int .u8 0] k=AJ (List.replicate k 0):=by
 unfold Builtin.zeroCells AJ;apply Array.ext';simp only[List.size_toArray,List.length_cons,List.length_nil,Nat.zero_add,Nat.mul_one,Array.toList_map,Array.toList_range,List.map_replicate];apply List.ext_getElem
 · simp
 intro i h1 h2;simp[Nat.mod_one,bv]
theorem Uy (a b:List UInt8):AJ a++AJ b=AJ (a++b):=by simp[AJ]
theorem Fc {P:Program} (w:World) (t ty e:TypeId) (he:e=5) (i:TypeInfo) (ht:P.underlying t=some (.slice e)) (hi:P.info? e=some i) (hz:i.zero=some (.int .u8 0)) (hsize:i.size=1) (hby:i.bytes=1)
 (xv:Value) (bs:List UInt8) (hb:Bytes w xv bs) (hlen:bs.length≤140737488355328) :
 ∃v' w',(Builtin.append_ #[t,t] ty #[.slice none 0 0,xv]).run P w=.ok v' w'∧BM w' w.heap.size v' bs∧Adds w w':=by
 subst he;obtain⟨ao,cap,rfl,hcap,hcm,hat⟩:=hb;cases bs with
 | nil =>
  refine⟨_,w,run_append_nothing w t t ty _ i ht hi none 0 0 (Nat.le_refl _) _ ?_,.inl ⟨rfl,rfl⟩,Ch.refl _ _⟩;cases ao with
  | none=>exact Src.ofNil w ht cap
  | some ad=>exact Src.ofSlice w ht ad 0 cap [] (by simp) (fun j u h=>by simp at h) (fun u h=>by cases h)
 | cons x bs =>
  obtain⟨g,off,rfl,_⟩:=hat 0 x rfl
  have hnews:∀j u,((x::bs).map bv)[j]?=some u→w.cell? ((⟨g,off,none⟩:Addr).add j)=some u:=fun j u hu=>by
   rw[List.getElem?_map] at hu;obtain⟨y,hy,rfl⟩:=Option.map_eq_some_iff.1 hu;obtain⟨g',o',he,hc⟩:=hat j y hy;cases he;rw[add_plain];exact hc
  have hr:=run_append_nil (P:=P) w t ty _ i (.int .u8 0) ht hi hz ⟨g,off,none⟩ (x::bs).length cap ((x::bs).map bv) (by simp[hsize]) hnews (by simp) (by omega) (by rw[hby];omega);have hge:=grownCap_ge w (x::bs).length 0 5;have hcm2:grownCap w (x::bs).length 0 5≤maxLen:=grownCap_le_maxLen w _ 0 _ (by unfold maxLen;omega);obtain⟨C,hC⟩:∃C,C=grownCap w (x::bs).length 0 5:=⟨_,rfl⟩
  rw[←hC] at hr hge hcm2;refine⟨_,_,hr,.inr ⟨w.heap.size,C,(x::bs)++List.replicate (C-(x::bs).length) 0,rfl,Nat.le_refl _,?_,?_,?_,hcm2,hge⟩,((Ch.refl _ _).drew).alloc _⟩
  · rw[show(Value.int .u8 0).cells=#[.int .u8 0] from rfl,Jy,show((x::bs).map bv).toArray=AJ (x::bs) from rfl,Uy]
    exact heap_alloc_new w.drew _
  · rw[List.length_append,List.length_replicate];omega
  exact List.take_left
theorem Ip {w:World} {a b:Value} {xs ys:List UInt8} (ha:Bytes w a xs) (hb:Bytes w b ys) :
 Calls Tryz.prog 75 #[a,b] w fun e w'=>e=.returned (.bool (decide (xs=ys)))∧w'=w:=by
 have c1:=Et ha;have c2:=Et hb;obtain⟨ao,ca,rfl,_⟩:=ha.form;obtain⟨bo,cb,rfl,_⟩:=hb.form;obtain⟨A,hA⟩:∃A,A=Iy xs:=⟨_,rfl⟩
 obtain⟨B,hB⟩:∃B,B=Iy ys:=⟨_,rfl⟩
 have hq:(A.toList == B.toList)=decide (xs=ys):=by rw[hA,hB];exact U2 xs ys
 rw[←hA] at c1;rw[←hB] at c2;obtain⟨r,hr⟩:∃r,r=decide (xs=ys):=⟨_,rfl⟩
 rw[←hr] at hq ⊢;clear hA hB ha hb hr;go_enter Tryz.func75,Tryz.ntmps75;go_wp2;go_ret;exact⟨by first|rw[hq]|rfl,rfl⟩
def GS (x:UInt8):UInt8:=x ^^^ 90
theorem Ll (x:UInt8):bits .xor .u8 (x.toNat:Int) 90=((GS x).toNat:Int):=Ng x 90
theorem MT {w:World} {n0:Nat} {v:Value} {bs:List UInt8} (h:BM w n0 v bs) :
 Calls Tryz.prog 83 #[v] w fun e w'=>(∃u,e=.returned u)∧Ch (fun k=>v.ownBlock=some k) w w':=by
 rcases h with⟨rfl,rfl⟩|⟨g,c,all,rfl,h1,h2,h3,h4,h5,h6⟩
 · have hs:∀w0:World,(Instr.sliceAt 73 (.slice none 0 0) none (some (.int .i64 0)) none).run Tryz.prog w0=.ok (.slice none 0 0) w0:=fun w0=>by kernel_rfl
   go_enter Tryz.func83,Tryz.ntmps83;go_wp2;go_loopw [3] (fun i wr=>i=.int .i64 0∧wr=w) (fun i _=>0)
   case atStart=>exact⟨rfl,rfl⟩
   obtain⟨rfl,rfl⟩:=hrel;go_wp2;go_end0;exact⟨⟨_,rfl⟩,Ch.refl _ _⟩
 obtain⟨m,hm⟩:∃m,m=bs.length:=⟨_,rfl⟩
 rw[←hm] at h6;have hmc:m≤c:=h6
 have hs:∀w0:World,(Instr.sliceAt 73 (.slice (some ⟨g,0,none⟩) m c) none (some (.int .i64 (c:Int))) none).run Tryz.prog w0=.ok (.slice (some ⟨g,0,none⟩) c c) w0:=fun w0=>by
  have ht:Tryz.prog.underlying 73=some (.slice (Tryz.prog.elem 73)):=by kernel_rfl
  rw[run_sliceAt_slice w0 _ _ _ _ _ ht,run_slice_h w0 _ (some ⟨g,0,none⟩) m c ht .i64 (c:Int) (by omega) (by omega)];obtain⟨z,hz⟩:∃z,(sizeOf (Tryz.prog.elem 73)).run Tryz.prog w0=.ok z w0:=⟨1,by kernel_rfl⟩
  have e:(Value.slice (if c=0 then some ⟨g,0,none⟩ else (some ⟨g,0,none⟩:Option Addr).map (·.add (0*z))) (c-0) (c-0))=.slice (some ⟨g,0,none⟩) c c:=by
   rw[Nat.zero_mul,Nat.sub_zero]
   congr 1
   split<;>rfl
  simp only[hz,sliced,Int.toNat_natCast,e,Result.andThen_ok]
 have hcm:(c:Int)≤9223372036854775807:=by unfold maxLen at h5;omega
 have HAll:=(hIq h2 h3)
 rw[←hm];clear h1 h2 h3 h4 h5 h6 hm hmc;go_enter Tryz.func83,Tryz.ntmps83;go_wp2;go_loopw [3] (fun i wr=>∃(k:Nat) (l:List UInt8),k≤c∧i=.int .i64 k∧wr.heap[g]?=some (.cells (AJ l) 5 (0,0))∧l.length=c∧Ch (fun j=>j=g) w wr) (fun i _=>c-(intOf i).toNat)
 case atStart=>exact⟨0,all,Nat.zero_le _,rfl,HAll.out.1,HAll.out.2,Ch.refl _ _⟩
 obtain⟨k,l,hk,rfl,hrow,hl,hch⟩:=hrel;by_cases hlt:k<c
 · obtain⟨x,hx⟩:∃x,l[k]?=some x:=⟨_,List.getElem?_eq_getElem (by omega)⟩
   have c1:wr.cell? ⟨g,k,none⟩=some (bv x):=AG hrow (by unfold AJ;rw[List.getElem?_toArray,List.getElem?_map,hx];rfl);have f1:=Ao hrow k;have hb:=Ll x;have hkc:(k:Int)<(c:Int):=by omega
   have hset:=Aa hrow k (bv (GS x))
   have hbr:(AJ l).setIfInBounds k (bv (GS x))=AJ (l.set k (GS x)):=by
    apply Array.ext';simp[AJ,List.map_set]
   rw[hbr] at hset;have HS:=(hIq hset (aIq hl hch))
   generalize GS x=y at hb HS;clear hrow hx hset hbr hl hch hk;go_wp2;go_roundw
   case rel=>exact⟨k+1,_,by omega,by first|rfl|simp,HS.out.1,by rw[List.length_set];exact HS.out.2.1,HS.out.2.2.setCell (p:=⟨g,k,none⟩) (.inl rfl) _⟩
   simp[intOf];omega
 obtain rfl:k=c:=by omega
 have HC:=Lib.hid hch;clear hrow hl hch hk hlt;go_wp2;go_end0;exact⟨⟨_,rfl⟩,HC.out.mono (fun j _ hj=>by rw[hj];rfl)⟩
end Go.Proofs.YtooijgcildbnlaaGreat.Store
namespace Go.Proofs.YtooijgcildbnlaaGreat.Store
open Go.RowKit Go.Proofs.YtooijgcildbnlaaGreat.ShaW Go.Proofs.YtooijgcildbnlaaGreat.Path Go.Proofs.YtooijgcildbnlaaGreat.CI
def mark (i:Nat):UInt8:=UInt8.ofNat (200+i % 50)
def marks (n k:Nat):List UInt8:=(List.range k).map fun i=>mark (n+i)
theorem Eg (n k:Nat):(marks n k).length=k:=by simp[marks]
def Dp (bs:List UInt8) (k:Nat):List UInt8:=bs++(marks bs.length k++List.replicate (5-k) 0)
theorem Il (bs:List UInt8) {k:Nat} (hk:k≤5):(Dp bs k).length=bs.length+5:=by simp[Dp,Eg];omega
theorem Lz (bs:List UInt8) {k:Nat} (hk:k<5):(Dp bs k).set (bs.length+k) (mark (bs.length+k))=Dp bs (k+1):=by
 unfold Dp;rw[List.set_append_right _ _ (by omega),show bs.length+k-bs.length=k by omega];rw[List.set_append_right _ _ (by rw[Eg];omega),Eg,Nat.sub_self];rw[show 5-k=(5-(k+1))+1 by omega,List.replicate_succ,List.set_cons_zero];rw[show marks bs.length (k+1)=marks bs.length k ++ [mark (bs.length+k)] by simp[marks,List.range_succ]];rw[List.append_assoc];rfl
def Hb (bs:List UInt8):List UInt8:=bs++marks bs.length 5
theorem Qf (bs:List UInt8):Dp bs 5=Hb bs:=by simp[Dp,Hb]
theorem JP (bs:List UInt8):(Hb bs).length=bs.length+5:=by simp[Hb,Eg]
theorem NQ (i:Nat):((mark i).toNat:Int)=200+(i % 50:Nat):=by
 unfold mark;have:i % 50<50:=Nat.mod_lt _ (by omega);rw[UInt8.toNat_ofNat'];rw[Nat.mod_eq_of_lt (by omega)];omega
theorem Jh (k:Nat):madeCells #[Value.int .u8 0] k=AJ (List.replicate k 0):=by
 rw[←Jy k];have e:k*(#[Value.int .u8 0]:Array Value).size=k:=Nat.mul_one k
 delta madeCells Builtin.zeroCells
 rw[e]
theorem Iw {w:World} {v:Value} {bs:List UInt8} (hb:Bytes w v bs) (hl:bs.length≤4000) :
 Calls Tryz.prog 123 #[v] w fun e w'=>e=.returned (.slice (some ⟨w.heap.size,0,none⟩) bs.length (bs.length+5))∧w'.heap[w.heap.size]?=some (.cells (AJ (Hb bs)) 5 (0,0))∧Adds w w':=by
 obtain⟨ao,cap,rfl,hcap,hcm,hat⟩:=hb;obtain⟨n,hn⟩:∃n,n=bs.length:=⟨_,rfl⟩
 have hmk:∀w:World,(Instr.makeSlice 73 (.int .i64 ((n:Int)+5)) (.int .i64 ((n:Int)+5))).run Tryz.prog w=.ok (.slice (some ⟨w.heap.size,0,none⟩) (n+5) (n+5)) (w.alloc (.cells (madeCells #[.int .u8 0] (n+5)) 5)):=fun w=>by
  have:=run_make_row' (P:=Tryz.prog) 73 5 (.int .u8 0) 1 Tryz.underlying73 (by kernel_rfl) rfl .i64 .i64 (n+5) (by omega) (by omega) w
  push_cast at this
  exact this
 have hw5:IntKind.i64.wrap ((n:Int)+5)=(n:Int)+5:=IntWalk.i64_in _ (by omega);have hmc:madeCells #[Value.int .u8 0] (n+5)=AJ (List.replicate (n+5) 0):=Jh _;rw[hmc] at hmk;obtain⟨MC,hMC⟩:∃MC,MC=AJ (List.replicate (n+5) 0):=⟨_,rfl⟩
 rw[←hMC] at hmk;have hMs:MC.size=n+5:=by rw[hMC,AY,List.length_replicate]
 obtain⟨L0,hL0⟩:∃L0,L0=AJ (Dp bs 0):=⟨_,rfl⟩
 have hnew:(MC.toList.take 0++((bs.map bv)++MC.toList.drop (0+n))).toArray=L0:=by
  rw[hL0,hMC];apply Array.ext';simp[AJ,Dp,marks,hn]
 have hbs:bs = []→L0=MC:=fun e=>by
  rw[hL0,hMC,hn,e];rfl
 have HM:=(hIq hMs (aIq hnew (aIq hL0 hbs)))
 have HAT:=Lib.hid hat;have HN:=Lib.hid hn;rw[←hn] at hl ⊢;have hn4:(n:Int)≤4000:=by omega
 have a0:Adds w (w.alloc (.cells MC 5)):=(Ch.refl _ w).alloc _;clear hmc hMC hMs hL0 hnew hbs hat hn hcap hcm;by_cases hz:bs = []
 · have HN0:=Lib.hid (by rw[HN.out,hz];rfl:n=0)
   have HZ:=Lib.hid hz;clear hz;go_enter Tryz.func123,Tryz.ntmps123
   go_upto_region 3 with(first
    | fail
    | ((with_reducible show zOq (.call _));refine wpList_copy_nothing rfl _ _ 73 73 rfl 5 Tryz.underlying73 (by kernel_rfl) (some ⟨w.heap.size,0,none⟩) ao (n+5) (n+5) n cap rfl rfl (by rw[HN0.out];exact Nat.zero_min _) ?_))
   refine Ek (fun w2 hw2=>?_);have r2:w2.heap[w.heap.size]?=some (.cells L0 5 (0,0)):=by rw[hw2,HM.out.2.2.2 HZ.out];exact heap_alloc_new _ _
   have a2:Adds w w2:=by rw[hw2];exact a0
   have W2:=(hIq r2 a2)
   clear hw2 r2 a2;go_wp2;go_loopg [4] 5 (fun g s4 wr=>∃k:Nat,k≤5∧g=5-k∧s4=.int .i64 ((n:Int)+k)∧wr.heap[w.heap.size]?=some (.cells (AJ (Dp bs k)) 5 (0,0))∧Adds w wr)
   case atStart=>exact⟨0,Nat.zero_le _,rfl,by simp,by rw[←HM.out.2.2.1];exact W2.out.1,W2.out.2⟩
   obtain⟨k,hk,rfl,rfl,hrow,hA⟩:=hrel;have HR:=(hIq hrow hA)
   by_cases hlt:k<5
   · have hk5:(n:Int)+(k:Int)<(n:Int)+5:=by omega
     have f1:=Ao hrow (n+k);have l1:=Ad hrow;have hset:=Aa hrow (n+k) (bv (mark (n+k)))
     have hbr:(AJ (Dp bs k)).setIfInBounds (n+k) (bv (mark (n+k)))=AJ (Dp bs (k+1)):=by
      rw[←Lz bs hlt, ←HN.out];apply Array.ext';simp[AJ,List.map_set]
     rw[hbr] at hset;have HS:=(hIq hset (hA.setCell (p:=⟨w.heap.size,n+k,none⟩) (.inr (Nat.le_refl _)) (bv (mark (n+k)))))
     have hsz:n+k<(AJ (Dp bs k)).size:=by rw[AY,Il bs (by omega), ←HN.out];omega
     obtain⟨y,hy⟩:∃y,(AJ (Dp bs k))[n+k]?=some y:=⟨_,Array.getElem?_eq_getElem hsz⟩
     have c1:=AG hrow hy;have hbm:bv (mark (n+k))=.int .u8 (200+((n+k) % 50:Nat)):=by unfold bv;rw[NQ]
     rw[hbm] at HS;obtain⟨i,hi⟩:∃i,i=n+k:=⟨_,rfl⟩
     have hii:(n:Int)+(k:Int)=(i:Int):=by omega
     rw[←hi] at HS f1 hsz c1;rw[hii] at hk5 ⊢;obtain⟨r,hr⟩:∃r,r=i % 50:=⟨_,rfl⟩
     have hr50:r<50:=by omega
     have hrem:Int.tmod (i:Int) 50=(r:Int):=by rw[hr];rfl
     rw[←hr] at HS;have HII:=Lib.hid hi;clear hrow hA hset hbr hk hbm hr hi hii hy;go_wp2;go_roundg (5-(k+1))
     case measure=>omega
     exact⟨k+1,by omega,rfl,by have:=HII.out;first|(congr 1;push_cast;omega)|(push_cast;omega),HS.out.1,HS.out.2⟩
   obtain rfl:k=5:=by omega
   have hk5:¬((n:Int)+5<(n:Int)+5):=by omega
   clear hrow hA hk hlt;go_wp2;go_ret;refine⟨rfl,?_,HR.out.2⟩;rw[←Qf];exact HR.out.1
 obtain⟨x,xs,hx⟩:∃x xs,bs=x::xs:=by
  cases bs with
  | nil=>exact absurd rfl hz
  | cons x xs=>exact⟨x,xs,rfl⟩
 obtain⟨g0,off,rfl,_⟩:=HAT.out 0 x (by rw[hx];rfl)
 have hsrc:∀(w1:World),Adds w w1→∀j u,(bs.map bv)[j]?=some u→w1.cell? ((⟨g0,off,none⟩:Addr).add j)=some u:=fun w1 a j u hu=>by
  rw[List.getElem?_map] at hu;obtain⟨y,hy,rfl⟩:=Option.map_eq_some_iff.1 hu;obtain⟨g',o',he,hc⟩:=HAT.out j y hy;cases he;rw[add_plain];exact a.cell hc id
 have HSR:=Lib.hid (hsrc _ a0);obtain⟨cs,hcs⟩:∃cs,cs=bs.map bv:=⟨_,rfl⟩
 have hc1:cs.length=n:=by rw[hcs,List.length_map,HN.out]
 rw[←hcs] at HSR;have hc2:∀u∈cs,u.oneCell'=true:=by rw[hcs];exact Cz bs
 have hnw:=HM.out.2.1;rw[←hcs] at hnw;have HCS:=(hIq hc1 (aIq hc2 (aIq hnw (by have:=HM.out.1;omega:0+n≤MC.size))))
 clear hsrc hc1 hc2 hnw hcs hx;go_enter Tryz.func123,Tryz.ntmps123
 go_upto_region 3 with(first
  | fail
  | ((with_reducible show zOq (.call _));refine D2 rfl _ _ 73 73 rfl 5 Tryz.underlying73 (by kernel_rfl) w.heap.size 0 (n+5) (n+5) ⟨g0,off,none⟩ n cap rfl rfl MC _ (heap_alloc_new _ _) cs n HCS.out.1 (Nat.min_eq_left (Nat.le_add_right _ _)).symm HSR.out HCS.out.2.2.2 HCS.out.2.1 L0 HCS.out.2.2.1 ?_))
 refine Ek (fun w2 hw2=>?_);have r2:w2.heap[w.heap.size]?=some (.cells L0 5 (0,0)):=by rw[hw2];exact AF (heap_alloc_new _ _) _
 have a2:Adds w w2:=by rw[hw2];exact a0.setRow (.inr (Nat.le_refl _)) _
 have W2:=(hIq r2 a2)
 clear hw2 r2 a2;go_wp2;go_loopg [4] 5 (fun g s4 wr=>∃k:Nat,k≤5∧g=5-k∧s4=.int .i64 ((n:Int)+k)∧wr.heap[w.heap.size]?=some (.cells (AJ (Dp bs k)) 5 (0,0))∧Adds w wr)
 case atStart=>exact⟨0,Nat.zero_le _,rfl,by simp,by rw[←HM.out.2.2.1];exact W2.out.1,W2.out.2⟩
 obtain⟨k,hk,rfl,rfl,hrow,hA⟩:=hrel;have HR:=(hIq hrow hA)
 by_cases hlt:k<5
 · have hk5:(n:Int)+(k:Int)<(n:Int)+5:=by omega
   have f1:=Ao hrow (n+k);have l1:=Ad hrow;have hset:=Aa hrow (n+k) (bv (mark (n+k)))
   have hbr:(AJ (Dp bs k)).setIfInBounds (n+k) (bv (mark (n+k)))=AJ (Dp bs (k+1)):=by
    rw[←Lz bs hlt, ←HN.out];apply Array.ext';simp[AJ,List.map_set]
   rw[hbr] at hset;have HS:=(hIq hset (hA.setCell (p:=⟨w.heap.size,n+k,none⟩) (.inr (Nat.le_refl _)) (bv (mark (n+k)))))
   have hsz:n+k<(AJ (Dp bs k)).size:=by rw[AY,Il bs (by omega), ←HN.out];omega
   obtain⟨y,hy⟩:∃y,(AJ (Dp bs k))[n+k]?=some y:=⟨_,Array.getElem?_eq_getElem hsz⟩
   have c1:=AG hrow hy;have hbm:bv (mark (n+k))=.int .u8 (200+((n+k) % 50:Nat)):=by unfold bv;rw[NQ]
   rw[hbm] at HS;obtain⟨i,hi⟩:∃i,i=n+k:=⟨_,rfl⟩
   have hii:(n:Int)+(k:Int)=(i:Int):=by omega
   rw[←hi] at HS f1 hsz c1;rw[hii] at hk5 ⊢;obtain⟨r,hr⟩:∃r,r=i % 50:=⟨_,rfl⟩
   have hr50:r<50:=by omega
   have hrem:Int.tmod (i:Int) 50=(r:Int):=by rw[hr];rfl
   rw[←hr] at HS;have HII:=Lib.hid hi;clear hrow hA hset hbr hk hbm hr hi hii hy;go_wp2;go_roundg (5-(k+1))
   case measure=>omega
   exact⟨k+1,by omega,rfl,by have:=HII.out;first|(congr 1;push_cast;omega)|(push_cast;omega),HS.out.1,HS.out.2⟩
 obtain rfl:k=5:=by omega
 have hk5:¬((n:Int)+5<(n:Int)+5):=by omega
 clear hrow hA hk hlt;go_wp2;go_ret;refine⟨rfl,?_,HR.out.2⟩;rw[←Qf];exact HR.out.1
theorem Gr (g n c:Nat) (hn:n≤c) (hc:(c:Int)≤9223372036854775807) (w0:World):(Instr.sliceAt 73 (.slice (some ⟨g,0,none⟩) n c) none (some (.int .i64 (c:Int))) none).run Tryz.prog w0=.ok (.slice (some ⟨g,0,none⟩) c c) w0:=by
 have ht:Tryz.prog.underlying 73=some (.slice (Tryz.prog.elem 73)):=by kernel_rfl
 rw[run_sliceAt_slice w0 _ _ _ _ _ ht,run_slice_h w0 _ (some ⟨g,0,none⟩) n c ht .i64 (c:Int) (by omega) (by omega)];obtain⟨z,hz⟩:∃z,(sizeOf (Tryz.prog.elem 73)).run Tryz.prog w0=.ok z w0:=⟨1,by kernel_rfl⟩
 have e:(Value.slice (if c=0 then some ⟨g,0,none⟩ else (some ⟨g,0,none⟩:Option Addr).map (·.add (0*z))) (c-0) (c-0))=.slice (some ⟨g,0,none⟩) c c:=by
  rw[Nat.zero_mul,Nat.sub_zero]
  congr 1
  split<;>rfl
 simp only[hz,sliced,Int.toNat_natCast,e,Result.andThen_ok]
theorem Mn {w:World} {v:Value} {bs:List UInt8} {g:Nat} (hg:w.heap[g]?=some (.cells (AJ (Hb bs)) 5 (0,0))) (hb:Bytes w v bs) (hl:bs.length≤4000) :
 Calls Tryz.prog 129 #[.slice (some ⟨g,0,none⟩) bs.length (bs.length+5),v] w fun e w'=>e=.returned (.bool true)∧Adds w w':=by
 have hLB:=fun w1 (a:Adds w w1)=>Iw (hb.Am a (fun _ _ h=>h)) hl
 obtain⟨ao,cap,rfl,_⟩:=hb.form
 have hcv:∀(w1:World) (g1:Nat),w1.heap[g1]?=some (.cells (AJ (Hb bs)) 5 (0,0))→(convert 73 9 (.slice (some ⟨g1,0,none⟩) (bs.length+5) (bs.length+5))).run Tryz.prog w1=.ok (.string (Iy (Hb bs))) w1:=fun w1 g1 h1=>by
  have:=Bytes.row (w:=w1) h1 (JP bs) (by unfold maxLen;omega);exact Et this
 have hsl:∀(g1:Nat) (w1:World),(Instr.sliceAt 73 (.slice (some ⟨g1,0,none⟩) bs.length (bs.length+5)) none (some (.int .i64 ((bs.length:Int)+5))) none).run Tryz.prog w1=.ok (.slice (some ⟨g1,0,none⟩) (bs.length+5) (bs.length+5)) w1:=fun g1 w1=>by
  have:=Gr g1 bs.length (bs.length+5) (by omega) (by omega) w1
  push_cast at this
  exact this
 obtain⟨S,hS⟩:∃S,S=Iy (Hb bs):=⟨_,rfl⟩
 rw[←hS] at hcv;obtain⟨L,hL⟩:∃L,L=AJ (Hb bs):=⟨_,rfl⟩
 rw[←hL] at hcv hg hLB;obtain⟨n,hn⟩:∃n,n=bs.length:=⟨_,rfl⟩
 rw[←hn] at hcv hsl hLB hl ⊢;have hw5:IntKind.i64.wrap ((n:Int)+5)=(n:Int)+5:=IntWalk.i64_in _ (by omega);have HLB:=Lib.hid hLB;have HCV:=Lib.hid hcv;have HSL:=Lib.hid hsl;have HG:=Lib.hid hg;clear hLB hcv hsl hg hb hS hL hn;go_enter Tryz.func129,Tryz.ntmps129;go_wp2;refine AS (fun wz=>wz.heap[g]?=some (.cells L 5 (0,0))∧Adds w wz) 20 [(0,false),(1,false),(2,false),(3,false),(4,false),(5,false),(7,false),(8,false),(9,false),(6,true),(10,false),(11,true),(12,false),(13,false),(14,false),(15,false),(16,false),(17,false),(18,false),(19,false)] (by kernel_rfl) (by kernel_rfl) ?_ ?_
 · exact⟨AQ HG.out,(Ch.refl _ w).drew⟩
 iterate 2
  refine plan_look rfl rfl (fun w0 hS=>(by clear hS;go_simp;try rfl)) ?_;simp only[Act.put,nAq,nBq,nCq]
 refine plan_look (v:=.int .i64 ((n:Int)+5)) rfl rfl (fun w0 hS=>(by clear hS;go_simp;try rfl)) ?_;simp only[Act.put,nAq,nBq,nCq];refine plan_look (v:=.slice (some ⟨g,0,none⟩) (n+5) (n+5)) rfl rfl (fun w0 hS=>(by have q:=HSL.out g w0;clear hS;go_simp;try rfl)) ?_;simp only[Act.put,nAq,nBq,nCq];refine GC rfl rfl 73 9 (.tmp 8) (.string S) rfl (.slice (some ⟨g,0,none⟩) (n+5) (n+5)) rfl (fun w0 hS=>HCV.out w0 g hS.1) ?_;simp only[Act.put,nAq,nBq,nCq]
 iterate 4
  refine plan_look rfl rfl (fun w0 hS=>(by clear hS;go_simp;try rfl)) ?_;simp only[Act.put,nAq,nBq,nCq]
 refine Ah rfl ?_;go_wp2_with fail;refine(HLB.out _ (Ch.refl _ w).drew).mono ?_;rintro e w2 ⟨rfl,r2,a2⟩;have H2:=(hIq (a2.row (AQ HG.out) id) (((Ch.refl (fun _=>False) w).drew).trans a2 (fun _=>fEq)))
 have R2:=Lib.hid r2;clear a2 r2;dsimp only;go_step;refine wpList_nil ?_;change _∧_;refine⟨H2.out,?_⟩;refine plan_look (v:=.slice (some ⟨w.drew.heap.size,0,none⟩) (n+5) (n+5)) rfl rfl (fun w0 hS=>(by have q:=HSL.out w.drew.heap.size w0;clear hS;go_simp;try rfl)) ?_;simp only[Act.put,nAq,nBq,nCq];have hc2:=HCV.out w2 _ R2.out;have hc3:(convert 73 9 (.slice (some ⟨w.heap.size,0,none⟩) (n+5) (n+5))).run Tryz.prog w2=.ok (.string S) w2:=hc2;refine Ah rfl ?_;go_wp2;refine⟨H2.out,?_⟩
 iterate 8
  refine plan_look rfl rfl (fun w0 hS=>(by clear hS;go_simp;try rfl)) ?_;simp only[Act.put,nAq,nBq,nCq]
 refine Ae ?_;simp only[List.drop_succ_cons,List.drop_zero];go_wp2;refine NoPanic.normal ?_;go_wp2;go_ret;exact⟨rfl,H2.out.2⟩
section
variable {w0 w w' : World} {c s b : Nat} {σ σ' τ τ' : AD Nd} {root : Int} {aside : List Int} {G : Nat→Prop}
theorem Ny {w:World} {g:Nat} {bs:List UInt8} (h:w.heap[g]?=some (.cells (AJ (Hb bs)) 5 (0,0))) (hl:bs.length≤4000):BM w 0 (.slice (some ⟨g,0,none⟩) bs.length (bs.length+5)) bs :=
 .inr ⟨g,_,Hb bs,rfl,Nat.zero_le _,h,JP bs,List.take_left,by unfold maxLen;omega,by omega⟩
def Wj (σ:AD Nd) (r:Int) (x:K8) (y:Int) (σ1:AD Nd) (e:Ending):Prop:=e=.returned (.tuple #[.int .i64 y,.int .i64 (O8 σ r x.val),.bool true])∧Xl σ r x.key x.val y σ1
def Xm (w0 w:World) (c s b:Nat) (σ:AD Nd) (root:Int) (aside:List Int) (G:Nat→Prop) (r:Int) (x:K8):Prop :=
 Calls Tryz.prog 146 #[.pointer (some ⟨c,0,none⟩),.int .i64 r,.agg x.cells] w fun e w'=>∃(y:Int) (σ1:AD Nd),Wj σ r x y σ1 e∧WA w0 w' c s b σ1 σ1 root aside G∧But G w w'
end
structure Sce (σ:AD Nd) (root:Int) (L:Bi) (A:List (Int×Bi)) (n i:Nat):Prop where
 roots:X6 σ ((root,L)::A)
 nz:∀p∈A,p.1≠0
 len:A.length≤9
 tot:total σ≤601*i
 room:σ.room=n
def Ot (A:List (Int×Bi)):List Int:=A.map Prod.fst
def Yn (w0 w':World) (c s b n i:Nat) (G:Nat→Prop) (e:Ending):Prop :=
 e=.returned (.bool true)∧∃(σ:AD Nd) (root:Int) (L:Bi) (A:List (Int×Bi)),WA w0 w' c s b σ σ root (Ot A) G∧Sce σ root L A n (i+1)

end Go.Proofs.YtooijgcildbnlaaGreat.Store
namespace Go.Proofs.YtooijgcildbnlaaGreat.CI
open Go.RowKit Go.Proofs.YtooijgcildbnlaaGreat.ShaW Go.Proofs.YtooijgcildbnlaaGreat.Path Go.Proofs.YtooijgcildbnlaaGreat.Store Go.Deep Go.ChangeShapes Go.WideShapes Go.ChangeAt
def Hk (w:World) (ao:Option Addr) (len:Nat):Prop:=∀i,i<len→∃(g off:Nat) (x:K8),ao=some ⟨g,off,none⟩∧x.Good w∧D7 w g (off+i*35) x.cells

end Go.Proofs.YtooijgcildbnlaaGreat.CI
namespace Go.Proofs.YtooijgcildbnlaaGreat
open Go.RowKit Go.ChangeShapes Go.WideShapes Go.ChangeAt
def YJ (W:World) (v:Value):Prop:=∃ao len cap,v=.slice ao len cap∧CI.Hk W ao len
def YS (W:World) (v:Value):Prop:=∃x:CI.K8,x.Good W∧v=.agg x.cells
end Go.Proofs.YtooijgcildbnlaaGreat
namespace Go.Proofs.YtooijgcildbnlaaGreat.Store
open Go.RowKit Go.Proofs.YtooijgcildbnlaaGreat.ShaW Go.Proofs.YtooijgcildbnlaaGreat.Path Go.Proofs.YtooijgcildbnlaaGreat.CI
section
variable {w0 w w' : World} {c s b n i : Nat} {σ : AD Nd} {root : Int} {L : Bi} {A : List (Int×Bi)} {G : Nat→Prop}
def Yf (w w':World) (n:Nat) (e:Ending):Prop:=∃(c s b:Nat),e=.returned (.tuple #[.pointer (some ⟨c,0,none⟩),.bool true])∧WA w w' c s b ⟨n,[],[]⟩ ⟨n,[],[]⟩ 0 [] (fun k=>k<w.heap.size)
end
def Small (W:World) (ao:Option Addr) (len:Nat):Prop:=∀i,i<len→∃(g off:Nat) (x:K8),ao=some ⟨g,off,none⟩∧x.Good W∧D7 W g (off+i*35) x.cells∧x.val.length≤2000
section
variable {w0 w w' : World} {c s b n i : Nat} {σ : AD Nd} {root : Int} {L : Bi} {A : List (Int×Bi)} {G : Nat→Prop}
def Xe (w w':World) (room:Int) (ao:Option Addr) (len:Nat) (e:Ending):Prop:=∃B,e=.returned (.bool B)∧w=w'∧(B=false→1≤room∧room≤5000∧len≤16∧Small w ao len)
def YE (w w':World) (n len:Nat) (e:Ending):Prop:=∃(c s b:Nat) (σ:AD Nd) (root:Int) (L:Bi) (A:List (Int×Bi)),
 e=.returned (.tuple #[.pointer (some ⟨c,0,none⟩),.bool true])∧WA w w' c s b σ σ root (Ot A) (fun k=>k<w.heap.size)∧Sce σ root L A n len
end
end Go.Proofs.YtooijgcildbnlaaGreat.Store
namespace Go.Proofs.YtooijgcildbnlaaGreat.Store
open Go.RowKit Go.Proofs.YtooijgcildbnlaaGreat.ShaW Go.Proofs.YtooijgcildbnlaaGreat.Path
def L2:Bi:=upd (upd [] (PK 0) []) (PK 128) []
structure Yd (σ:AD Nd) (r:Int):Prop where
 db:Db σ r L2
 sole:YT σ r
 live:Store.live σ=3
 span:σ.slots.length≤516
 ne:r≠0

end Go.Proofs.YtooijgcildbnlaaGreat.Store
namespace Go.Proofs.YtooijgcildbnlaaGreat.Law12
open Go.RowKit Go.Proofs.YtooijgcildbnlaaGreat.ShaW Go.Proofs.YtooijgcildbnlaaGreat.Path Go.Proofs.YtooijgcildbnlaaGreat.Store Go.Proofs.YtooijgcildbnlaaGreat.CI
structure At2 (w0 w:World) (s:Nat) (r:Int):Prop where
 ex:∃σ F,At w s F σ∧Yd σ r

end Go.Proofs.YtooijgcildbnlaaGreat.Law12
namespace Go.Proofs.YtooijgcildbnlaaGreat.Store
open Go.RowKit Go.Proofs.YtooijgcildbnlaaGreat.ShaW Go.Proofs.YtooijgcildbnlaaGreat.Path Go.Proofs.YtooijgcildbnlaaGreat.CI
section
variable {w : World}
def Y4 (w:World) (ao:Option Addr) (n cap:Nat) (l:List Int):Prop:=w.ownsRow 0 3 1 (.slice ao n cap) n (Ci l)∧l.length=n
end
end Go.Proofs.YtooijgcildbnlaaGreat.Store

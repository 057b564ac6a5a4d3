/- Laws of the layers below. -/
import Derived.Deep.OwnRows
import Derived.Test.YtngbdbpofifimaaGreatQm30
import Derived.Shelf.SlSortCmp.WholeK
import Derived.Shelf.SlSortCmp.NoneTotal
import Derived.Test.YtngbdbpofifimaaGreatChecked
import Derived.Maps.OwnOps
import Derived.Maps.OwnSet
import Derived.DeepKeys4
import Derived.WalkArith
set_option maxHeartbeats 3200000
set_option maxRecDepth 100000
set_option linter.unusedVariables false
namespace Go.Proofs.YtngbdbpofifimaaGreat.Store
open Go.RowKit Go.Proofs.YtngbdbpofifimaaGreat.ShaW Go.Proofs.YtngbdbpofifimaaGreat.Path Go.Proofs.YtngbdbpofifimaaGreat.Bk
def mark (i:Nat):UInt8:=UInt8.ofNat (200+i % 50)
def marks (n k:Nat):List UInt8:=(List.range k).map fun i=>mark (n+i)
theorem EN (n k:Nat):(marks n k).length=k:=by simp[marks]
def DV (bs:List UInt8) (k:Nat):List UInt8:=bs++(marks bs.length k++List.replicate (5-k) 0)
theorem IE (bs:List UInt8) {k:Nat} (hk:k≤5):(DV bs k).length=bs.length+5:=by simp[DV,EN];omega
theorem LM (bs:List UInt8) {k:Nat} (hk:k<5):(DV bs k).set (bs.length+k) (mark (bs.length+k))=DV bs (k+1):=by
 unfold DV;rw[List.set_append_right _ _ (by omega),show bs.length+k-bs.length=k by omega];rw[List.set_append_right _ _ (by rw[EN];omega),EN,Nat.sub_self];rw[show 5-k=(5-(k+1))+1 by omega,List.replicate_succ,List.set_cons_zero];rw[show marks bs.length (k+1)=marks bs.length k ++ [mark (bs.length+k)] by simp[marks,List.range_succ]];rw[List.append_assoc];rfl
def Gn (bs:List UInt8):List UInt8:=bs++marks bs.length 5
theorem Pw (bs:List UInt8):DV bs 5=Gn bs:=by simp[DV,Gn]
theorem I9 (bs:List UInt8):(Gn bs).length=bs.length+5:=by simp[Gn,EN]
theorem Mn (i:Nat):((mark i).toNat:Int)=200+(i % 50:Nat):=by
 unfold mark;have:i % 50<50:=Nat.mod_lt _ (by omega);rw[UInt8.toNat_ofNat'];rw[Nat.mod_eq_of_lt (by omega)];omega
theorem JR (k:Nat):madeCells #[Value.int .u8 0] k=AS (List.replicate k 0):=by
 rw[←Jy k];have e:k*(#[Value.int .u8 0]:Array Value).size=k:=Nat.mul_one k
 delta madeCells Builtin.zeroCells
 rw[e]
theorem IM {w:World} {v:Value} {bs:List UInt8} (hb:Bytes w v bs) (hl:bs.length≤4000) :
 Calls Tryz.prog 101 #[v] w fun e w'=>e=.returned (.slice (some ⟨w.heap.size,0,none⟩) bs.length (bs.length+5))∧w'.heap[w.heap.size]?=some (.cells (AS (Gn bs)) 5 (0,0))∧AN w w':=by
 obtain⟨ao,cap,rfl,hcap,hcm,hat⟩:=hb;obtain⟨n,hn⟩:∃n,n=bs.length:=⟨_,rfl⟩
 have hmk:∀w:World,(Instr.makeSlice 29 (.int .i64 ((n:Int)+5)) (.int .i64 ((n:Int)+5))).run Tryz.prog w=.ok (.slice (some ⟨w.heap.size,0,none⟩) (n+5) (n+5)) (w.alloc (.cells (madeCells #[.int .u8 0] (n+5)) 5)):=fun w=>by
  have:=run_make_row' (P:=Tryz.prog) 29 5 (.int .u8 0) 1 Tryz.underlying29 (by kernel_rfl) rfl .i64 .i64 (n+5) (by omega) (by omega) w
  push_cast at this
  exact this
 have hw5:IntKind.i64.wrap ((n:Int)+5)=(n:Int)+5:=IntWalk.i64_in _ (by omega);have hmc:madeCells #[Value.int .u8 0] (n+5)=AS (List.replicate (n+5) 0):=JR _;rw[hmc] at hmk;obtain⟨MC,hMC⟩:∃MC,MC=AS (List.replicate (n+5) 0):=⟨_,rfl⟩
 rw[←hMC] at hmk;have hMs:MC.size=n+5:=by rw[hMC,AU,List.length_replicate]
 obtain⟨L0,hL0⟩:∃L0,L0=AS (DV bs 0):=⟨_,rfl⟩
 have hnew:(MC.toList.take 0++((bs.map bv)++MC.toList.drop (0+n))).toArray=L0:=by
  rw[hL0,hMC];apply Array.ext';simp[AS,DV,marks,hn]
 have hbs:bs = []→L0=MC:=fun e=>by
  rw[hL0,hMC,hn,e];rfl
 have HM:=(hIq hMs (aIq hnew (aIq hL0 hbs)))
 have HAT:=Lib.hid hat;have HN:=Lib.hid hn;rw[←hn] at hl ⊢;have hn4:(n:Int)≤4000:=by omega
 have a0:AN w (w.alloc (.cells MC 5)):=(Ch.refl _ w).alloc _;clear hmc hMC hMs hL0 hnew hbs hat hn hcap hcm;by_cases hz:bs = []
 · have HN0:=Lib.hid (by rw[HN.out,hz];rfl:n=0)
   have HZ:=Lib.hid hz;clear hz;go_enter Tryz.func101,Tryz.ntmps101
   go_upto_region 3 with(first
    | fail
    | ((with_reducible show zOq (.call _));refine wpList_copy_nothing rfl _ _ 29 29 rfl 5 Tryz.underlying29 (by kernel_rfl) (some ⟨w.heap.size,0,none⟩) ao (n+5) (n+5) n cap rfl rfl (by rw[HN0.out];exact Nat.zero_min _) ?_))
   refine DQ (fun w2 hw2=>?_);have r2:w2.heap[w.heap.size]?=some (.cells L0 5 (0,0)):=by rw[hw2,HM.out.2.2.2 HZ.out];exact heap_alloc_new _ _
   have a2:AN w w2:=by rw[hw2];exact a0
   have W2:=(hIq r2 a2)
   clear hw2 r2 a2;go_wp2;go_loopg [4] 5 (fun g s4 wr=>∃k:Nat,k≤5∧g=5-k∧s4=.int .i64 ((n:Int)+k)∧wr.heap[w.heap.size]?=some (.cells (AS (DV bs k)) 5 (0,0))∧AN w wr)
   case atStart=>exact⟨0,Nat.zero_le _,rfl,by simp,by rw[←HM.out.2.2.1];exact W2.out.1,W2.out.2⟩
   obtain⟨k,hk,rfl,rfl,hrow,hA⟩:=hrel;have HR:=(hIq hrow hA)
   by_cases hlt:k<5
   · have hk5:(n:Int)+(k:Int)<(n:Int)+5:=by omega
     have f1:=Ai hrow (n+k);have l1:=Ad hrow;have hset:=AV hrow (n+k) (bv (mark (n+k)))
     have hbr:(AS (DV bs k)).setIfInBounds (n+k) (bv (mark (n+k)))=AS (DV bs (k+1)):=by
      rw[←LM bs hlt, ←HN.out];apply Array.ext';simp[AS,List.map_set]
     rw[hbr] at hset;have HS:=(hIq hset (hA.setCell (p:=⟨w.heap.size,n+k,none⟩) (.inr (Nat.le_refl _)) (bv (mark (n+k)))))
     have hsz:n+k<(AS (DV bs k)).size:=by rw[AU,IE bs (by omega), ←HN.out];omega
     obtain⟨y,hy⟩:∃y,(AS (DV bs k))[n+k]?=some y:=⟨_,Array.getElem?_eq_getElem hsz⟩
     have c1:=AH hrow hy;have hbm:bv (mark (n+k))=.int .u8 (200+((n+k) % 50:Nat)):=by unfold bv;rw[Mn]
     rw[hbm] at HS;obtain⟨i,hi⟩:∃i,i=n+k:=⟨_,rfl⟩
     have hii:(n:Int)+(k:Int)=(i:Int):=by omega
     rw[←hi] at HS f1 hsz c1;rw[hii] at hk5 ⊢;obtain⟨r,hr⟩:∃r,r=i % 50:=⟨_,rfl⟩
     have hr50:r<50:=by omega
     have hrem:Int.tmod (i:Int) 50=(r:Int):=by rw[hr];rfl
     rw[←hr] at HS;have HII:=Lib.hid hi;clear hrow hA hset hbr hk hbm hr hi hii hy;go_wp2;go_roundg (5-(k+1))
     case measure=>omega
     exact⟨k+1,by omega,rfl,by have:=HII.out;first|(congr 1;push_cast;omega)|(push_cast;omega),HS.out.1,HS.out.2⟩
   obtain rfl:k=5:=by omega
   have hk5:¬((n:Int)+5<(n:Int)+5):=by omega
   clear hrow hA hk hlt;go_wp2;go_ret;refine⟨rfl,?_,HR.out.2⟩;rw[←Pw];exact HR.out.1
 obtain⟨x,xs,hx⟩:∃x xs,bs=x::xs:=by
  cases bs with
  | nil=>exact absurd rfl hz
  | cons x xs=>exact⟨x,xs,rfl⟩
 obtain⟨g0,off,rfl,_⟩:=HAT.out 0 x (by rw[hx];rfl)
 have hsrc:∀(w1:World),AN w w1→∀j u,(bs.map bv)[j]?=some u→w1.cell? ((⟨g0,off,none⟩:Addr).add j)=some u:=fun w1 a j u hu=>by
  rw[List.getElem?_map] at hu;obtain⟨y,hy,rfl⟩:=Option.map_eq_some_iff.1 hu;obtain⟨g',o',he,hc⟩:=HAT.out j y hy;cases he;rw[add_plain];exact a.cell hc id
 have HSR:=Lib.hid (hsrc _ a0);obtain⟨cs,hcs⟩:∃cs,cs=bs.map bv:=⟨_,rfl⟩
 have hc1:cs.length=n:=by rw[hcs,List.length_map,HN.out]
 rw[←hcs] at HSR;have hc2:∀u∈cs,u.oneCell'=true:=by rw[hcs];exact DI bs
 have hnw:=HM.out.2.1;rw[←hcs] at hnw;have HCS:=(hIq hc1 (aIq hc2 (aIq hnw (by have:=HM.out.1;omega:0+n≤MC.size))))
 clear hsrc hc1 hc2 hnw hcs hx;go_enter Tryz.func101,Tryz.ntmps101
 go_upto_region 3 with(first
  | fail
  | ((with_reducible show zOq (.call _));refine Dk rfl _ _ 29 29 rfl 5 Tryz.underlying29 (by kernel_rfl) w.heap.size 0 (n+5) (n+5) ⟨g0,off,none⟩ n cap rfl rfl MC _ (heap_alloc_new _ _) cs n HCS.out.1 (Nat.min_eq_left (Nat.le_add_right _ _)).symm HSR.out HCS.out.2.2.2 HCS.out.2.1 L0 HCS.out.2.2.1 ?_))
 refine DQ (fun w2 hw2=>?_);have r2:w2.heap[w.heap.size]?=some (.cells L0 5 (0,0)):=by rw[hw2];exact AK (heap_alloc_new _ _) _
 have a2:AN w w2:=by rw[hw2];exact a0.setRow (.inr (Nat.le_refl _)) _
 have W2:=(hIq r2 a2)
 clear hw2 r2 a2;go_wp2;go_loopg [4] 5 (fun g s4 wr=>∃k:Nat,k≤5∧g=5-k∧s4=.int .i64 ((n:Int)+k)∧wr.heap[w.heap.size]?=some (.cells (AS (DV bs k)) 5 (0,0))∧AN w wr)
 case atStart=>exact⟨0,Nat.zero_le _,rfl,by simp,by rw[←HM.out.2.2.1];exact W2.out.1,W2.out.2⟩
 obtain⟨k,hk,rfl,rfl,hrow,hA⟩:=hrel;have HR:=(hIq hrow hA)
 by_cases hlt:k<5
 · have hk5:(n:Int)+(k:Int)<(n:Int)+5:=by omega
   have f1:=Ai hrow (n+k);have l1:=Ad hrow;have hset:=AV hrow (n+k) (bv (mark (n+k)))
   have hbr:(AS (DV bs k)).setIfInBounds (n+k) (bv (mark (n+k)))=AS (DV bs (k+1)):=by
    rw[←LM bs hlt, ←HN.out];apply Array.ext';simp[AS,List.map_set]
   rw[hbr] at hset;have HS:=(hIq hset (hA.setCell (p:=⟨w.heap.size,n+k,none⟩) (.inr (Nat.le_refl _)) (bv (mark (n+k)))))
   have hsz:n+k<(AS (DV bs k)).size:=by rw[AU,IE bs (by omega), ←HN.out];omega
   obtain⟨y,hy⟩:∃y,(AS (DV bs k))[n+k]?=some y:=⟨_,Array.getElem?_eq_getElem hsz⟩
   have c1:=AH hrow hy;have hbm:bv (mark (n+k))=.int .u8 (200+((n+k) % 50:Nat)):=by unfold bv;rw[Mn]
   rw[hbm] at HS;obtain⟨i,hi⟩:∃i,i=n+k:=⟨_,rfl⟩
   have hii:(n:Int)+(k:Int)=(i:Int):=by omega
   rw[←hi] at HS f1 hsz c1;rw[hii] at hk5 ⊢;obtain⟨r,hr⟩:∃r,r=i % 50:=⟨_,rfl⟩
   have hr50:r<50:=by omega
   have hrem:Int.tmod (i:Int) 50=(r:Int):=by rw[hr];rfl
   rw[←hr] at HS;have HII:=Lib.hid hi;clear hrow hA hset hbr hk hbm hr hi hii hy;go_wp2;go_roundg (5-(k+1))
   case measure=>omega
   exact⟨k+1,by omega,rfl,by have:=HII.out;first|(congr 1;push_cast;omega)|(push_cast;omega),HS.out.1,HS.out.2⟩
 obtain rfl:k=5:=by omega
 have hk5:¬((n:Int)+5<(n:Int)+5):=by omega
 clear hrow hA hk hlt;go_wp2;go_ret;refine⟨rfl,?_,HR.out.2⟩;rw[←Pw];exact HR.out.1
theorem GH (g n c:Nat) (hn:n≤c) (hc:(c:Int)≤9223372036854775807) (w0:World):(Instr.sliceAt 29 (.slice (some ⟨g,0,none⟩) n c) none (some (.int .i64 (c:Int))) none).run Tryz.prog w0=.ok (.slice (some ⟨g,0,none⟩) c c) w0:=by
 have ht:Tryz.prog.underlying 29=some (.slice (Tryz.prog.elem 29)):=by kernel_rfl
 rw[run_sliceAt_slice w0 _ _ _ _ _ ht,run_slice_h w0 _ (some ⟨g,0,none⟩) n c ht .i64 (c:Int) (by omega) (by omega)];obtain⟨z,hz⟩:∃z,(sizeOf (Tryz.prog.elem 29)).run Tryz.prog w0=.ok z w0:=⟨1,by kernel_rfl⟩
 have e:(Value.slice (if c=0 then some ⟨g,0,none⟩ else (some ⟨g,0,none⟩:Option Addr).map (·.add (0*z))) (c-0) (c-0))=.slice (some ⟨g,0,none⟩) c c:=by
  rw[Nat.zero_mul,Nat.sub_zero]
  congr 1
  split<;>rfl
 simp only[hz,sliced,Int.toNat_natCast,e,Result.andThen_ok]
theorem ML {w:World} {v:Value} {bs:List UInt8} {g:Nat} (hg:w.heap[g]?=some (.cells (AS (Gn bs)) 5 (0,0))) (hb:Bytes w v bs) (hl:bs.length≤4000) :
 Calls Tryz.prog 107 #[.slice (some ⟨g,0,none⟩) bs.length (bs.length+5),v] w fun e w'=>e=.returned (.bool true)∧AN w w':=by
 have hLB:=fun w1 (a:AN w w1)=>IM (hb.Ae a (fun _ _ h=>h)) hl
 obtain⟨ao,cap,rfl,_⟩:=hb.form
 have hcv:∀(w1:World) (g1:Nat),w1.heap[g1]?=some (.cells (AS (Gn bs)) 5 (0,0))→(convert 29 9 (.slice (some ⟨g1,0,none⟩) (bs.length+5) (bs.length+5))).run Tryz.prog w1=.ok (.string (GF (Gn bs))) w1:=fun w1 g1 h1=>by
  have:=Bytes.row (w:=w1) h1 (I9 bs) (by unfold maxLen;omega);exact Cb this
 have hsl:∀(g1:Nat) (w1:World),(Instr.sliceAt 29 (.slice (some ⟨g1,0,none⟩) bs.length (bs.length+5)) none (some (.int .i64 ((bs.length:Int)+5))) none).run Tryz.prog w1=.ok (.slice (some ⟨g1,0,none⟩) (bs.length+5) (bs.length+5)) w1:=fun g1 w1=>by
  have:=GH g1 bs.length (bs.length+5) (by omega) (by omega) w1
  push_cast at this
  exact this
 obtain⟨S,hS⟩:∃S,S=GF (Gn bs):=⟨_,rfl⟩
 rw[←hS] at hcv;obtain⟨L,hL⟩:∃L,L=AS (Gn bs):=⟨_,rfl⟩
 rw[←hL] at hcv hg hLB;obtain⟨n,hn⟩:∃n,n=bs.length:=⟨_,rfl⟩
 rw[←hn] at hcv hsl hLB hl ⊢;have hw5:IntKind.i64.wrap ((n:Int)+5)=(n:Int)+5:=IntWalk.i64_in _ (by omega);have HLB:=Lib.hid hLB;have HCV:=Lib.hid hcv;have HSL:=Lib.hid hsl;have HG:=Lib.hid hg;clear hLB hcv hsl hg hb hS hL hn;go_enter Tryz.func107,Tryz.ntmps107;go_wp2;refine AP (fun wz=>wz.heap[g]?=some (.cells L 5 (0,0))∧AN w wz) 20 [(0,false),(1,false),(2,false),(3,false),(4,false),(5,false),(7,false),(8,false),(9,false),(6,true),(10,false),(11,true),(12,false),(13,false),(14,false),(15,false),(16,false),(17,false),(18,false),(19,false)] (by kernel_rfl) (by kernel_rfl) ?_ ?_
 · exact⟨AM HG.out,(Ch.refl _ w).drew⟩
 iterate 2
  refine plan_look rfl rfl (fun w0 hS=>(by clear hS;go_simp;try rfl)) ?_;simp only[Act.put,nAq,nBq,nCq]
 refine plan_look (v:=.int .i64 ((n:Int)+5)) rfl rfl (fun w0 hS=>(by clear hS;go_simp;try rfl)) ?_;simp only[Act.put,nAq,nBq,nCq];refine plan_look (v:=.slice (some ⟨g,0,none⟩) (n+5) (n+5)) rfl rfl (fun w0 hS=>(by have q:=HSL.out g w0;clear hS;go_simp;try rfl)) ?_;simp only[Act.put,nAq,nBq,nCq];refine DW rfl rfl 29 9 (.tmp 8) (.string S) rfl (.slice (some ⟨g,0,none⟩) (n+5) (n+5)) rfl (fun w0 hS=>HCV.out w0 g hS.1) ?_;simp only[Act.put,nAq,nBq,nCq]
 iterate 4
  refine plan_look rfl rfl (fun w0 hS=>(by clear hS;go_simp;try rfl)) ?_;simp only[Act.put,nAq,nBq,nCq]
 refine AW rfl ?_;go_wp2_with fail;refine(HLB.out _ (Ch.refl _ w).drew).mono ?_;rintro e w2 ⟨rfl,r2,a2⟩;have H2:=(hIq (a2.row (AM HG.out) id) (((Ch.refl (fun _=>False) w).drew).trans a2 (fun _=>fEq)))
 have R2:=Lib.hid r2;clear a2 r2;dsimp only;go_step;refine wpList_nil ?_;change _∧_;refine⟨H2.out,?_⟩;refine plan_look (v:=.slice (some ⟨w.drew.heap.size,0,none⟩) (n+5) (n+5)) rfl rfl (fun w0 hS=>(by have q:=HSL.out w.drew.heap.size w0;clear hS;go_simp;try rfl)) ?_;simp only[Act.put,nAq,nBq,nCq];have hc2:=HCV.out w2 _ R2.out;have hc3:(convert 29 9 (.slice (some ⟨w.heap.size,0,none⟩) (n+5) (n+5))).run Tryz.prog w2=.ok (.string S) w2:=hc2;refine AW rfl ?_;go_wp2;refine⟨H2.out,?_⟩
 iterate 8
  refine plan_look rfl rfl (fun w0 hS=>(by clear hS;go_simp;try rfl)) ?_;simp only[Act.put,nAq,nBq,nCq]
 refine AZ ?_;simp only[List.drop_succ_cons,List.drop_zero];go_wp2;refine NoPanic.normal ?_;go_wp2;go_ret;exact⟨rfl,H2.out.2⟩
def Fx (w:World) (x:Value) (all:List UInt8):Prop :=
 (x=.slice none 0 0∧all = [])∨∃g n,x=.slice (some ⟨g,0,none⟩) n all.length∧n≤all.length∧all.length≤maxLen∧w.heap[g]?=some (.cells (AS all) 5 (0,0))
def Lx:Value→Value
 | .slice (some a) _ c=>.slice (some a) c c
 | _=>.slice none 0 0
section
variable {w w' : World} {x : Value} {all : List UInt8}
theorem BA.whole {n0:Nat} {v:Value} {bs:List UInt8} (h:BA w n0 v bs):∃all,Fx w v all:=by
 rcases h with⟨h1,h2⟩|⟨g,c,all,h1,h2,h3,h4,h5,h6,h7⟩
 · exact⟨[],.inl ⟨h1,rfl⟩⟩
 subst h4;exact⟨all,.inr ⟨g,_,h1,h7,h6,h3⟩⟩
theorem Fx.Ae (h:Fx w x all) {C:Nat→Prop} (c:Ch C w w') (hd:∀k,x.ownBlock=some k→¬C k):Fx w' x all:=by
 rcases h with h|⟨g,n,rfl,h1,h2,h3⟩
 · exact .inl h
 exact .inr ⟨g,n,rfl,h1,h2,c.row h3 (hd g rfl)⟩
theorem Fx.form (h:Fx w x all):∃ao n,x=.slice ao n all.length∧(all.length:Int)≤9223372036854775807:=by
 rcases h with⟨rfl,rfl⟩|⟨g,n,rfl,h1,h2,h3⟩
 · exact⟨_,_,rfl,by decide⟩
 exact⟨_,_,rfl,by unfold maxLen at h2;omega⟩
theorem Fx.cut (h:Fx w x all) (w1:World):(Instr.sliceAt 29 x none (some (.int .i64 (all.length:Int))) none).run Tryz.prog w1=.ok (Lx x) w1:=by
 rcases h with⟨rfl,rfl⟩|⟨g,n,rfl,h1,h2,h3⟩
 · kernel_rfl
 exact GH g n all.length h1 (by unfold maxLen at h2;omega) w1
theorem Fx.conv (h:Fx w x all):(convert 29 9 (Lx x)).run Tryz.prog w=.ok (.string (GF all)) w:=by
 rcases h with⟨rfl,rfl⟩|⟨g,n,rfl,h1,h2,h3⟩
 · exact Cb (Bytes.nil w)
 exact Cb (Bytes.row (w:=w) h3 rfl h2)
theorem KB (h:Fx w x all) :
 Calls Tryz.prog 87 #[x] w fun e w'=>(∃u,e=.returned u)∧Ch (fun k=>x.ownBlock=some k) w w'∧∃all',all'.length=all.length∧Fx w' x all':=by
 rcases h with⟨rfl,rfl⟩|⟨g,n,rfl,h1,h2,h3⟩
 · have hs:∀w0:World,(Instr.sliceAt 29 (.slice none 0 0) none (some (.int .i64 0)) none).run Tryz.prog w0=.ok (.slice none 0 0) w0:=fun w0=>by kernel_rfl
   go_enter Tryz.func87,Tryz.ntmps87;go_wp2;go_loopw [3] (fun i wr=>i=.int .i64 0∧wr=w) (fun i _=>0)
   case atStart=>exact⟨rfl,rfl⟩
   obtain⟨rfl,rfl⟩:=hrel;go_wp2;go_end0;exact⟨⟨_,rfl⟩,Ch.refl _ _,[],rfl,.inl ⟨rfl,rfl⟩⟩
 obtain⟨c,hc⟩:∃c,c=all.length:=⟨_,rfl⟩
 rw[←hc] at h1 h2 ⊢;have hs:=fun w1=>GH g n c h1 (by unfold maxLen at h2;omega) w1
 have hcm:(c:Int)≤9223372036854775807:=by unfold maxLen at h2;omega
 have HAll:=(hIq h3 (aIq hc.symm (aIq h1 h2)))
 clear h1 h2 h3 hc;go_enter Tryz.func87,Tryz.ntmps87;go_wp2;go_loopw [3] (fun i wr=>∃(k:Nat) (l:List UInt8),k≤c∧i=.int .i64 k∧wr.heap[g]?=some (.cells (AS l) 5 (0,0))∧l.length=c∧Ch (fun j=>j=g) w wr) (fun i _=>c-(intOf i).toNat)
 case atStart=>exact⟨0,all,Nat.zero_le _,rfl,HAll.out.1,HAll.out.2.1,Ch.refl _ _⟩
 obtain⟨k,l,hk,rfl,hrow,hl,hch⟩:=hrel;by_cases hlt:k<c
 · obtain⟨x,hx⟩:∃x,l[k]?=some x:=⟨_,List.getElem?_eq_getElem (by omega)⟩
   have c1:wr.cell? ⟨g,k,none⟩=some (bv x):=AH hrow (by unfold AS;rw[List.getElem?_toArray,List.getElem?_map,hx];rfl);have f1:=Ai hrow k;have hb:=Lb x;have hkc:(k:Int)<(c:Int):=by omega
   have hset:=AV hrow k (bv (Ew x))
   have hbr:(AS l).setIfInBounds k (bv (Ew x))=AS (l.set k (Ew x)):=by
    apply Array.ext';simp[AS,List.map_set]
   rw[hbr] at hset;have HS:=(hIq hset (aIq hl hch))
   generalize Ew x=y at hb HS;clear hrow hx hset hbr hl hch hk;go_wp2;go_roundw
   case rel=>exact⟨k+1,_,by omega,by first|rfl|simp,HS.out.1,by rw[List.length_set];exact HS.out.2.1,HS.out.2.2.setCell (p:=⟨g,k,none⟩) (.inl rfl) _⟩
   simp[intOf];omega
 obtain rfl:k=c:=by omega
 have HC:=(hIq hch (aIq hrow hl))
 clear hrow hl hch hk hlt;go_wp2;go_end0;refine⟨⟨_,rfl⟩,HC.out.1.mono (fun j _ hj=>by rw[hj];rfl),l,HC.out.2.2,.inr ⟨g,n,by rw[HC.out.2.2],by rw[HC.out.2.2];exact HAll.out.2.2.1,by rw[HC.out.2.2];exact HAll.out.2.2.2,HC.out.2.1⟩⟩
def Xx (ls:Nat→Value) (bf:Nat→List UInt8) (gl:Nat) (wz:World):Prop:=(∀j,j<2→Fx wz (ls j) (bf j))∧wz.heap[gl]?=some (.cells #[ls 0,ls 1] 29 (0,0))
end
end Go.Proofs.YtngbdbpofifimaaGreat.Store
namespace Go.Proofs.YtngbdbpofifimaaGreat.Store
open Go.RowKit Go.Sort Go.Proofs.YtngbdbpofifimaaGreat.ShaW Go.Proofs.YtngbdbpofifimaaGreat.Path Go.Proofs.YtngbdbpofifimaaGreat.Bk
section
variable {w w' : World} {b : Nat} {F : Nat→Prop} {ρ : Rs} {σ : AG Nd}
theorem Fi.lp {L:Av} {v:Value} {out:List Pr} (h:Fi w w' F L v out) (hF:∀k,F k→k<w.heap.size):Lp w' v out:=by
 obtain⟨h1,_,h3,h4,h5⟩:=h;exact⟨h1.base (fun _ _=>Nat.zero_le _),h3,fun x hx=>⟨(h4 x hx).1,(h4 x hx).2.1,fun _ k hk=>Nat.lt_of_lt_of_le (hF k ((h4 x hx).2.2 k hk)) h5.size⟩⟩
end
end Go.Proofs.YtngbdbpofifimaaGreat.Store
namespace Go.Proofs.YtngbdbpofifimaaGreat
open Go.Shelf
def Tz:Go.Shelf.Ren:=⟨fun|6=>268|15=>253|14=>304|28=>285|29=>286|20=>332|21=>333|22=>334|23=>335|24=>336|25=>337|26=>338|27=>339|46=>346|47=>310|48=>311|49=>347|50=>348|57=>350|n=>n,fun|22=>56|24=>86|25=>357|3=>3|39=>216|0=>0|53=>332|55=>339|4=>4|46=>368|45=>367|50=>302|5=>5|9=>9|66=>387|70=>391|76=>408|77=>226|n=>n,fun|n=>n⟩
end Go.Proofs.YtngbdbpofifimaaGreat
namespace Go.Proofs.YtngbdbpofifimaaGreat.Bk
open Go.RowKit Go.Sort Go.Proofs.YtngbdbpofifimaaGreat.ShaW Go.Proofs.YtngbdbpofifimaaGreat.Path Go.Proofs.YtngbdbpofifimaaGreat.Store
structure PrK where
 p:Pr
 len:p.key.length=32
 one:p.vv.oneCell'=true
instance:Inhabited PrK:=⟨⟨⟨List.replicate 32 0,.slice none 0 0,[]⟩,rfl,rfl⟩⟩
def Xr (x:PrK):List Value:=x.p.cells.toList
def Xt (x y:PrK):Int:=Lib.compareBytes x.p.key y.p.key
end Go.Proofs.YtngbdbpofifimaaGreat.Bk
namespace Go.Proofs.YtngbdbpofifimaaGreat.Store
open Go.RowKit Go.Proofs.YtngbdbpofifimaaGreat.Path Go.Maps
theorem Su:Tryz.prog.keyType 47=true:=by kernel_rfl
theorem SG:Tryz.prog.cellsOf 47=32:=by kernel_rfl
theorem U0:Tryz.prog.cellsOf 5=1:=by kernel_rfl
theorem Ph {α β:Type} {f:α→Option β} {g:α→β}:∀(l:List α),(∀x∈l,f x=some (g x))→l.mapM f=some (l.map g)
 | [],_=>rfl
 | x::l,h=>by
  rw[List.mapM_cons,h x (by simp),Ph l (fun y hy=>h y (by simp[hy]))];rfl
theorem PQ (k:List UInt8) (hk:k.length=32):∃l,keyOf Tryz.prog 47 (.agg (AS k))=some l:=by
 have hsz:(AS k).size=32:=by simp[AS,hk]
 have hf:Value.formed Tryz.prog 47 (.agg (AS k))=true:=by
  unfold Value.formed;simp only[Tryz.underlying47,SG,hsz];rfl
 have hl:∀n,Tryz.prog.keyLits (n+2) 47 (AS k).toList=some (((List.range 32).map fun i => [Lit.int .u8 ((k.getD i 0).toNat:Int)]).flatten):=fun n=>by
  unfold Program.keyLits;simp only[Tryz.underlying47];rw[if_pos (by rw[SG,Array.length_toList,hsz]),Ph (g:=fun i => [Lit.int .u8 ((k.getD i 0).toNat:Int)])]
  · rfl
  intro i hi;have hi:i<32:=List.mem_range.1 hi
  have hg:((AS k).toList.drop (i*Tryz.prog.cellsOf 5)).take (Tryz.prog.cellsOf 5) = [bv (k.getD i 0)]:=by
   rw[U0,Nat.mul_one];have h1:i<(AS k).toList.length:=by rw[Array.length_toList,hsz];exact hi
   rw[List.drop_eq_getElem_cons h1];have:=Dd (l:=k) (i:=i) (by omega);rw[Array.getElem?_eq_getElem (by rw[hsz];exact hi)] at this;injection this with this;simp[this]
  rw[hg];unfold Program.keyLits;simp only[Tryz.underlying5,bv];have:=(k.getD i 0).toNat_lt;rw[if_pos ⟨trivial,WalkArith.wf_u8 ⟨by omega,by omega⟩⟩]
 unfold keyOf;simp only[Tryz.underlying47,Su,hf];obtain⟨m,hm⟩:∃m,Tryz.prog.types.size+1=m+2:=⟨Tryz.prog.types.size-1,by have:1≤Tryz.prog.types.size:=of_decide_eq_true (by kernel_rfl);omega⟩
 rw[hm];have e:=hl m
 show ∃l,Option.map _ (Tryz.prog.keyLits (m+2) 47 (AS k).toList)=some l
 rw[e];exact⟨_,rfl⟩
noncomputable abbrev WV:Value→Option (DataW Value×List MemPlace):=plainElem Tryz.prog 4
noncomputable def kl (k:List UInt8):Lit:=if h:k.length=32 then Classical.choose (PQ k h) else .bool false
def Xf (w:World) (b n:Nat) (S:List (List UInt8)):Prop:=∃D,w.ownsMap Tryz.prog 47 WV b n D∧∀k:List UInt8,k.length=32→D.atKey (kl k) (.lit (.bool false))=.lit (.bool (decide (k∈S)))
end Go.Proofs.YtngbdbpofifimaaGreat.Store
namespace Go.Proofs.YtngbdbpofifimaaGreat.Bk
open Go.RowKit Go.Sort Go.Proofs.YtngbdbpofifimaaGreat.ShaW Go.Proofs.YtngbdbpofifimaaGreat.Path Go.Proofs.YtngbdbpofifimaaGreat.Store
def JS (a:Option Addr) (cap i:Nat):Option Addr:=if cap=i then a else a.map (·.add (i*33))
def XV:Pr:=⟨List.replicate 32 0,.slice none 0 0,[]⟩
def Xk (l:List Pr):Prop:=l.length≤4096∧(∀x∈l,x.val.length≤1024)∧(l.map (·.key)).Nodup
def seen (l:List Pr) (k:Nat):List (List UInt8):=((l.take k).map (·.key)).reverse
theorem Ay {P:Program} {S:World→Prop} {Q:Exit→Act→World→Prop} {l:List Oper} {n i:Nat} {r:List (Nat×Bool)} {a:Act} {w:World} {o:Oper} (ho:l[i]?=some o) (hw:Region.wanted o (yielded l.toArray a.tmps)=true) (ty:TypeId) (x:Operand) (hop:o.op=.load ty x) (g off k:Nat) (hx:a.eval x=.pointer (some ⟨g,off,none⟩))
 {t:TypeId} {cur:Array Value} {fr:Nat×Nat} {d:TypeDesc} (hg:∀w0,S w0→w0.heap[g]?=some (.cells cur t fr)) (hu:P.underlying ty=some d) (hd:d.isRow=true) (hi:(P.info? ty).map (·.size)=some k) (hfit:off+k≤cur.size) (cs:Array Value) (hv:cur.extract off (off+k)=cs)
 (h:BQ P l Q S n r (a.put o.dst (.agg cs)) w):BQ P l Q S n ((i,false)::r) a w :=
 plan_look ho hw (fun w0 hS=>by
  unfold execOp;simp only[hop,hx,Instr.loadAt,Instr.sureAddr,Sem.run_bind,Sem.run_pure,Result.andThen_ok,BU w0 (hg w0 hS) hu hd hi hfit,hv]) h
end Go.Proofs.YtngbdbpofifimaaGreat.Bk
namespace Go.Proofs.YtngbdbpofifimaaGreat.Store
open Go.RowKit Go.Proofs.YtngbdbpofifimaaGreat.ShaW Go.Proofs.YtngbdbpofifimaaGreat.Path Go.Proofs.YtngbdbpofifimaaGreat.Bk
theorem QU (t:Tr) (hl:∀e∈t.Ah,e.1.length=32):t.from (List.replicate 32 0)=t.Ah:=by
 unfold Tr.from;refine List.filter_eq_self.2 fun e he=>?_
 have:=Iz e.1;rw[hl e he] at this;unfold geK;rw[Bool.not_eq_true',decide_eq_false_iff_not];exact this
theorem FD {w:World} {b:Nat} {v:Value} {out:List Pr} (h:RowP w b v out) (hg:∀x∈out,x.Good w):∃ao cap,v=.slice ao out.length cap∧Ba w ao out:=by
 obtain⟨ao,cap,rfl⟩:=h.form;refine⟨ao,cap,rfl,hg,fun i x hx=>?_⟩;have hl:0<out.length:=by have:=(List.getElem?_eq_some_iff.1 hx).1;omega
 obtain⟨g,cap',cur,e1,_,hrow,hsz,hc,_⟩:=h.open (fun x hx=>(hg x hx).key) hl
 injection e1 with e1 _ _;subst e1;refine⟨g,0,rfl,cur,_,_,hrow,?_,?_⟩
 · rw[Pr.size (hg x (List.mem_of_getElem? hx)).key]
   have:=(List.getElem?_eq_some_iff.1 hx).1;omega
 rw[Pr.size (hg x (List.mem_of_getElem? hx)).key,Nat.zero_add];exact hc i x hx
end Go.Proofs.YtngbdbpofifimaaGreat.Store
namespace Go.Proofs.YtngbdbpofifimaaGreat.Store
open Go.RowKit Go.Sort Go.Proofs.YtngbdbpofifimaaGreat.ShaW Go.Proofs.YtngbdbpofifimaaGreat.Path Go.Proofs.YtngbdbpofifimaaGreat.Bk
def BE (σ:AG Nd) (root:Int) (T:Tr):Av:=if AX σ root=0 then T.Ah else []
theorem Ls:∀(E:Av) (key:List UInt8),E.Pairwise (fun a b=>Lib.compareBytes a.1 b.1<0)→E.drop (bef (E.map (·.1)) key)=E.filter (fun e=>geK key e)
 | [],key,_=>rfl
 | e::E,key,h=>by
  obtain⟨h1,h2⟩:=List.pairwise_cons.1 h;by_cases hlt:Lib.compareBytes e.1 key<0
  · have e1:bef ((e::E).map (·.1)) key=bef (E.map (·.1)) key+1:=by
     unfold bef;rw[List.map_cons,List.countP_cons,if_pos (by simpa using hlt)]
    have e2:geK key e=false:=by unfold geK;simpa using hlt
    rw[e1,List.drop_succ_cons,Ls E key h2,List.filter_cons,e2];simp
  have hall:∀x∈e::E,¬Lib.compareBytes x.1 key<0:=fun x hx=>by
   rcases List.mem_cons.1 hx with rfl|hx
   · exact hlt
   exact fun hx2=>hlt (CP _ _ _ (h1 x hx) hx2)
  have e1:bef ((e::E).map (·.1)) key=0:=by
   unfold bef;refine List.countP_eq_zero.2 fun k hk=>?_
   obtain⟨x,hx,rfl⟩:=List.mem_map.1 hk;simpa using hall x hx
  rw[e1,List.drop_zero];exact(List.filter_eq_self.2 fun x hx=>by unfold geK;simpa using hall x hx).symm
section
variable {w0 w w' : World} {b : Nat} {F G : Nat→Prop} {σ : AG Nd} {root : Int} {T : Tr} {key : List UInt8}
theorem Mj (GG:Good σ) (hT:AX σ root=0→Rep (sk σ) root 0 T):(BE σ root T).Pairwise (fun a b=>Lib.compareBytes a.1 b.1<0):=by
 unfold BE;split
 · rename_i h
   obtain⟨_,_,h3⟩:=(hT h).Ah GG.fit;exact h3.imp fun {a b} h=>h
 exact List.Pairwise.nil
def XO (Qv:Nat→Prop) (w:World) (er:Int) (E:Av) (e:Ending) (w':World):Prop:=AN w w'∧∃ao out cap,e=.returned (.tuple #[.slice ao (List.length out) cap,.int .i64 er])∧RowP w' w.heap.size (.slice ao (List.length out) cap) out∧(∀x∈out,x.Good w')∧out.map Pr.ent=E∧∀x∈out,∀j,x.vv.ownBlock=some j→Qv j
theorem GW (h:ROw w0 w b σ G) (GG:Good σ) (hT:AX σ root=0→Rep (sk σ) root 0 T) (hlv:T.leaves≤65536) {wx:World} (ax:AN w wx) :
 Calls Tryz.prog 22 #[.pointer (some ⟨b,0,none⟩),.int .i64 root] wx (XO (fun j=>j<w.heap.size∧¬G j) wx (AX σ root) (BE σ root T)):=by
 have hrt:=(h.adds ax).root GG root;by_cases h0:AX σ root=0
 · have hr:=hT h0
   obtain⟨hv,_,hrise⟩:=hr.Ah GG.fit;have e13:BE σ root T=T.Ah:=if_pos h0;rw[e13,h0];rw[h0] at hrt;obtain⟨ρ,F,h1,L,_,_,hGF⟩:=h;have hen:=fun w1 (a:AN wx w1)=>GV L GG hr (h1.adds (ax.trans a (fun _=>fEq)))
   have hlt0:∀k,F k→k<w.heap.size:=h1.lt;have hlt:∀k,F k→k<w.heap.size∧¬G k:=fun k hk=>⟨hlt0 k hk,fun hg=>(hGF k hg).1 hk⟩
   have hwx:=ax.size;have hlen:T.Ah.length≤65536:=by rw[Tr.BS];exact hlv
   have HR:=(hIq hrt (aIq hen (aIq hlt (aIq hrise (aIq hlen hwx)))))
   clear hrt hen hlt hlt0 hGF hrise hlen hv hr h1 L hT hlv e13 h0 ax hwx;go_enter Tryz.func22,Tryz.ntmps22;go_wp2_with fail;refine HR.out.1.mono ?_;rintro e w1 ⟨rfl,a1⟩;have A1:=Lib.hid a1;clear a1;go_wp2_with fail;refine(HR.out.2.1 _ A1.out).mono ?_;rintro e w2 ⟨v,out,rfl,hEn⟩;have hlp:=hEn.lp (fun k hk=>Nat.lt_of_lt_of_le (HR.out.2.2.1 k hk).1 (Nat.le_trans HR.out.2.2.2.2.2 A1.out.size));have hee:=hEn.2.1
   have hso:=Of hlp (by have:=congrArg List.length hee;rw[List.length_map] at this;have:=HR.out.2.2.2.2.1;omega) (by
    have h3:=HR.out.2.2.2.1;rw[←hee] at h3;exact List.pairwise_map.2 (List.pairwise_map.1 h3))
   have A2:=Lib.hid (A1.out.trans hEn.2.2.2.2 (fun _=>fEq));have HS:=(hIq hso (aIq hlp.good (aIq hee (fun x hx j hj=>HR.out.2.2.1 j ((hEn.2.2.2.1 x hx).2.2 j hj)))))
   clear hlp hee hso hEn;go_wp2_with fail;refine HS.out.1.mono ?_;rintro e w3 ⟨v3,rfl,hrow,_,a3⟩;obtain⟨ao,cap,rfl⟩:=hrow.form;have A3:=(hIq (A2.out.trans a3 (fun _=>fEq)) (aIq (hrow.base (fun k hk=>Nat.le_trans A2.out.size (hrow.lt k hk).1)) a3))
   clear hrow a3;go_wp2;go_ret2;exact⟨A3.out.1,ao,out,cap,rfl,A3.out.2.1,fun x hx=>(HS.out.2.1 x hx).adds A3.out.2.2,HS.out.2.2.1,HS.out.2.2.2⟩
 obtain⟨er,her⟩:∃er,er=AX σ root:=⟨_,rfl⟩
 have e13:BE σ root T = []:=if_neg h0;rw[e13];rw[←her] at hrt h0 ⊢;have hb:(er != 0)=true:=by simpa using h0
 have HR:=Lib.hid hrt;clear hrt h hT hlv her e13 h0 ax;go_enter Tryz.func22,Tryz.ntmps22;go_wp2_with fail;refine HR.out.mono ?_;rintro e w1 ⟨rfl,a1⟩;have A1:=Lib.hid a1;clear a1;go_wp2;go_ret2;exact⟨A1.out,none,[],0,rfl,World.ownsRow_nil _ _ _ _,fun x hx=>(by cases hx),rfl,fun x hx=>(by cases hx)⟩
theorem Mo (h:ROw w0 w b σ G) (GG:Good σ) (hT:AX σ root=0→Rep (sk σ) root 0 T) (hlv:T.leaves≤65536) :
 Calls Tryz.prog 73 #[.pointer (some ⟨b,0,none⟩),.int .i64 root] w fun e w'=>e=.returned (.tuple #[.int .i64 (((BE σ root T).length:Nat):Int),.int .i64 (AX σ root)])∧AN w w':=by
 have hal:=GW h GG hT hlv (Ch.refl _ _);obtain⟨er,her⟩:∃er,er=AX σ root:=⟨_,rfl⟩
 obtain⟨E,hE⟩:∃E,E=BE σ root T:=⟨_,rfl⟩
 rw[←her, ←hE] at hal;rw[←her, ←hE];have HR:=Lib.hid hal;clear hal h hT hlv her hE;go_enter Tryz.func73,Tryz.ntmps73;go_wp2_with fail;refine HR.out.mono ?_;rintro e w1 ⟨a1,ao,out,cap,rfl,_,_,he,_⟩;obtain⟨n,hn⟩:∃n,n=out.length:=⟨_,rfl⟩
 rw[←hn];have H1:=(hIq a1 (show n=E.length by rw[hn, ←he,List.length_map]))
 clear a1 he hn;go_wp2;go_ret2;exact⟨by rw[←H1.out.2];rfl,H1.out.1⟩
theorem TJ (h:ROw w0 w b σ G) (GG:Good σ) (hT:AX σ root=0→Rep (sk σ) root 0 T) (hlv:T.leaves≤65536) (hk:key.length=32) :
 Calls Tryz.prog 75 #[.pointer (some ⟨b,0,none⟩),.int .i64 root,.agg (AS key)] w fun e w'=>e=.returned (.tuple #[.int .i64 ((bef ((BE σ root T).map (·.1)) key:Nat):Int),.int .i64 (AX σ root)])∧AN w w':=by
 have hal:=fun w1 (a:AN w w1)=>GW h GG hT hlv a
 obtain⟨er,her⟩:∃er,er=AX σ root:=⟨_,rfl⟩
 obtain⟨E,hE⟩:∃E,E=BE σ root T:=⟨_,rfl⟩
 have hel:E.length≤65536:=by
  rw[hE];unfold BE;split
  · rw[Tr.BS];exact hlv
  exact Nat.zero_le _
 rw[←her, ←hE] at hal;rw[←her, ←hE];obtain⟨K,hK⟩:∃K,K=AS key:=⟨_,rfl⟩
 have hKs:K.size=32:=by rw[hK,AU,hk]
 have hbf:=fun w1 ao (l:List Pr) cap (hp:Ba w1 ao l) (hl:l.length≤100000)=>J5 cap hp hl hk
 rw[←hK] at hbf ⊢;have HR:=(hIq hal (aIq hbf (aIq hel hKs)))
 clear hal h hT hlv her hE hbf hel hK hKs hk;go_enter Tryz.func75,Tryz.ntmps75;go_wp2_with fail;refine(HR.out.1 _ ((Ch.refl _ _).alloc _)).mono ?_;rintro e w1 ⟨a1,ao,out,cap,rfl,hrow,hgd,he,_⟩;obtain⟨ao2,cap2,e2,hp⟩:=FD hrow hgd;have e21:ao2=ao:=by injection e2 with h _ _;exact h.symm
 rw[e21] at hp;have hlen:out.length≤100000:=by have:=HR.out.2.2.1;rw[←he,List.length_map] at this;omega
 have hb:=HR.out.2.1 w1 ao out cap hp hlen;have hmm:out.map (·.key)=E.map (·.1):=by rw[←he,List.map_map];rfl
 rw[hmm] at hb;have hK5:=a1.row (heap_alloc_new w (.cells K 47)) id;have H1:=(hIq (((Ch.refl (fun _=>False) w).alloc (.cells K 47)).trans a1 (fun _=>fEq)) (aIq hb hK5))
 obtain⟨n,hn⟩:∃n,n=out.length:=⟨_,rfl⟩
 rw[←hn] at H1 ⊢;clear a1 hrow hgd he e2 e21 hp hlen hb hmm hK5 hn
 go_wp2_with (first
  | fail
  | ((with_reducible show zOq (.load 47 _));refine AJ rfl 47 _ rfl w.heap.size 0 rfl H1.out.2.2 Tryz.underlying47 rfl Ab (by rw[HR.out.2.2.2];omega) K (by have:=HR.out.2.2.2;simp[←this]) ?_))
 refine H1.out.2.1.mono ?_;rintro e w2 ⟨rfl,a2⟩;have H2:=Lib.hid (H1.out.1.trans a2 (fun _=>fEq));clear a2;go_wp2;go_ret2;exact⟨rfl,H2.out⟩
end
end Go.Proofs.YtngbdbpofifimaaGreat.Store

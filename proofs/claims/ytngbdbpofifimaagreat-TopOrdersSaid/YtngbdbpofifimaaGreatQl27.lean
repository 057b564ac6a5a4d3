/- Laws of the layers below. -/
import Derived.Test.YtngbdbpofifimaaGreatQl21
set_option maxHeartbeats 3200000
set_option maxRecDepth 100000
set_option linter.unusedVariables false
namespace Go.Proofs.YtngbdbpofifimaaGreat.Path
open Go.RowKit
def Bk (x:UInt8) (Af:Int):UInt8:=if Af≤0 then 255 else if Af<8 then UInt8.ofNat (x.toNat / 2 ^ (8-Af.toNat)*2 ^ (8-Af.toNat)+(2 ^ (8-Af.toNat)-1)) else x
def Di (d:Int):Int→List UInt8→List UInt8
 | _,[] => []
 | i,x::l=>Bk x (d-8*i)::Di d (i+1) l
def last (k:List UInt8) (d:Int):List UInt8:=Di d 0 k
theorem Hg (d:Int):∀(i:Int) (l:List UInt8),(Di d i l).length=l.length
 | _,[]=>rfl
 | i,x::l=>by simp[Di,Hg d (i+1) l]
theorem D4 (k:List UInt8) (d:Int):(last k d).length=k.length:=Hg d 0 k
theorem Jg (d:Int):∀(i:Int) (l:List UInt8) (n:Nat) (x:UInt8),l[n]?=some x→(Di d i l)[n]?=some (Bk x (d-8*(i+n)))
 | _,[],_,_,h=>by simp at h
 | i,y::l,0,x,h=>by
  simp at h;subst h;simp[Di]
 | i,y::l,n+1,x,h=>by
  have:=Jg d (i+1) l n x (by simpa using h);rw[Di,List.getElem?_cons_succ,this]
  congr 2
  omega
def Cn (k:List UInt8) (d:Int) (i:Nat):List UInt8:=(last k d).take i++k.drop i
theorem Tg (k:List UInt8) (d:Int) (i:Nat) (x:UInt8) (h:k[i]?=some x):(Cn k d i)[i]?=some x:=by
 have hi:=(List.getElem?_eq_some_iff.1 h).1;have hl:((last k d).take i).length=i:=by simp[D4];omega
 rw[Cn,List.getElem?_append_right (by omega),hl,Nat.sub_self,List.getElem?_drop];exact h
theorem RB (k:List UInt8) (d:Int) (i:Nat) (x:UInt8) (h:k[i]?=some x):Cn k d (i+1)=(Cn k d i).set i (Bk x (d-8*i)):=by
 have hi:=(List.getElem?_eq_some_iff.1 h).1;have hl:((last k d).take i).length=i:=by simp[D4];omega
 have hf:=Jg d 0 k i x h;unfold Cn;rw[List.set_append_right _ _ (by omega),hl,Nat.sub_self,List.take_add_one];rw[show(last k d)[i]?=some (Bk x (d-8*i)) by rw[last,hf];congr 2;omega];rw[List.drop_eq_getElem_cons hi,List.set_cons_zero,Option.toList_some,List.append_assoc,List.singleton_append]
theorem Ri (k:List UInt8) (d:Int):Cn k d k.length=last k d:=by
 rw[Cn,List.take_of_length_le (by rw[D4];exact Nat.le_refl _),List.drop_length,List.append_nil]
theorem EU:∀(x:Fin 256) (r:Fin 7),bits .or .u8 (bits .andNot .u8 (x.val:Int) ((255 / 2 ^ (r.val+1):Nat):Int)) (bits .and .u8 255 ((255 / 2 ^ (r.val+1):Nat):Int))=((x.val / 2 ^ (8-(r.val+1))*2 ^ (8-(r.val+1))+(2 ^ (8-(r.val+1))-1):Nat):Int):=by decide +kernel
theorem Ee:∀(x:Fin 256) (r:Fin 7),x.val / 2 ^ (8-(r.val+1))*2 ^ (8-(r.val+1))+(2 ^ (8-(r.val+1))-1)<256:=by decide +kernel
theorem Vg (x:UInt8):bits .or .u8 (bits .andNot .u8 (x.toNat:Int) (127:Int)) (bits .and .u8 255 (127:Int))=((Bk x 1).toNat:Int):=by
 have h:=EU ⟨x.toNat,x.toNat_lt⟩ ⟨0,by omega⟩;have hb:=Ee ⟨x.toNat,x.toNat_lt⟩ ⟨0,by omega⟩
 have e:(Bk x 1).toNat=x.toNat / 2 ^ (8-1)*2 ^ (8-1)+(2 ^ (8-1)-1):=by
  show(UInt8.ofNat (x.toNat / 2 ^ (8-1)*2 ^ (8-1)+(2 ^ (8-1)-1))).toNat=_
  rw[UInt8.toNat_ofNat'];exact Nat.mod_eq_of_lt hb
 rw[e];exact h
theorem W0 (x:UInt8):bits .or .u8 (bits .andNot .u8 (x.toNat:Int) (127:Int)) (127:Int)=((Bk x 1).toNat:Int):=by
 have e:bits .and .u8 255 (127:Int)=127:=by decide +kernel
 have h:=Vg x;rw[e] at h;exact h
theorem Vt (x:UInt8):bits .or .u8 (bits .andNot .u8 (x.toNat:Int) (63:Int)) (bits .and .u8 255 (63:Int))=((Bk x 2).toNat:Int):=by
 have h:=EU ⟨x.toNat,x.toNat_lt⟩ ⟨1,by omega⟩;have hb:=Ee ⟨x.toNat,x.toNat_lt⟩ ⟨1,by omega⟩
 have e:(Bk x 2).toNat=x.toNat / 2 ^ (8-2)*2 ^ (8-2)+(2 ^ (8-2)-1):=by
  show(UInt8.ofNat (x.toNat / 2 ^ (8-2)*2 ^ (8-2)+(2 ^ (8-2)-1))).toNat=_
  rw[UInt8.toNat_ofNat'];exact Nat.mod_eq_of_lt hb
 rw[e];exact h
theorem Xw (x:UInt8):bits .or .u8 (bits .andNot .u8 (x.toNat:Int) (63:Int)) (63:Int)=((Bk x 2).toNat:Int):=by
 have e:bits .and .u8 255 (63:Int)=63:=by decide +kernel
 have h:=Vt x;rw[e] at h;exact h
theorem Ui (x:UInt8):bits .or .u8 (bits .andNot .u8 (x.toNat:Int) (31:Int)) (bits .and .u8 255 (31:Int))=((Bk x 3).toNat:Int):=by
 have h:=EU ⟨x.toNat,x.toNat_lt⟩ ⟨2,by omega⟩;have hb:=Ee ⟨x.toNat,x.toNat_lt⟩ ⟨2,by omega⟩
 have e:(Bk x 3).toNat=x.toNat / 2 ^ (8-3)*2 ^ (8-3)+(2 ^ (8-3)-1):=by
  show(UInt8.ofNat (x.toNat / 2 ^ (8-3)*2 ^ (8-3)+(2 ^ (8-3)-1))).toNat=_
  rw[UInt8.toNat_ofNat'];exact Nat.mod_eq_of_lt hb
 rw[e];exact h
theorem XU (x:UInt8):bits .or .u8 (bits .andNot .u8 (x.toNat:Int) (31:Int)) (31:Int)=((Bk x 3).toNat:Int):=by
 have e:bits .and .u8 255 (31:Int)=31:=by decide +kernel
 have h:=Ui x;rw[e] at h;exact h
theorem VH (x:UInt8):bits .or .u8 (bits .andNot .u8 (x.toNat:Int) (15:Int)) (bits .and .u8 255 (15:Int))=((Bk x 4).toNat:Int):=by
 have h:=EU ⟨x.toNat,x.toNat_lt⟩ ⟨3,by omega⟩;have hb:=Ee ⟨x.toNat,x.toNat_lt⟩ ⟨3,by omega⟩
 have e:(Bk x 4).toNat=x.toNat / 2 ^ (8-4)*2 ^ (8-4)+(2 ^ (8-4)-1):=by
  show(UInt8.ofNat (x.toNat / 2 ^ (8-4)*2 ^ (8-4)+(2 ^ (8-4)-1))).toNat=_
  rw[UInt8.toNat_ofNat'];exact Nat.mod_eq_of_lt hb
 rw[e];exact h
theorem YP (x:UInt8):bits .or .u8 (bits .andNot .u8 (x.toNat:Int) (15:Int)) (15:Int)=((Bk x 4).toNat:Int):=by
 have e:bits .and .u8 255 (15:Int)=15:=by decide +kernel
 have h:=VH x;rw[e] at h;exact h
theorem VZ (x:UInt8):bits .or .u8 (bits .andNot .u8 (x.toNat:Int) (7:Int)) (bits .and .u8 255 (7:Int))=((Bk x 5).toNat:Int):=by
 have h:=EU ⟨x.toNat,x.toNat_lt⟩ ⟨4,by omega⟩;have hb:=Ee ⟨x.toNat,x.toNat_lt⟩ ⟨4,by omega⟩
 have e:(Bk x 5).toNat=x.toNat / 2 ^ (8-5)*2 ^ (8-5)+(2 ^ (8-5)-1):=by
  show(UInt8.ofNat (x.toNat / 2 ^ (8-5)*2 ^ (8-5)+(2 ^ (8-5)-1))).toNat=_
  rw[UInt8.toNat_ofNat'];exact Nat.mod_eq_of_lt hb
 rw[e];exact h
theorem YB (x:UInt8):bits .or .u8 (bits .andNot .u8 (x.toNat:Int) (7:Int)) (7:Int)=((Bk x 5).toNat:Int):=by
 have e:bits .and .u8 255 (7:Int)=7:=by decide +kernel
 have h:=VZ x;rw[e] at h;exact h
theorem U3 (x:UInt8):bits .or .u8 (bits .andNot .u8 (x.toNat:Int) (3:Int)) (bits .and .u8 255 (3:Int))=((Bk x 6).toNat:Int):=by
 have h:=EU ⟨x.toNat,x.toNat_lt⟩ ⟨5,by omega⟩;have hb:=Ee ⟨x.toNat,x.toNat_lt⟩ ⟨5,by omega⟩
 have e:(Bk x 6).toNat=x.toNat / 2 ^ (8-6)*2 ^ (8-6)+(2 ^ (8-6)-1):=by
  show(UInt8.ofNat (x.toNat / 2 ^ (8-6)*2 ^ (8-6)+(2 ^ (8-6)-1))).toNat=_
  rw[UInt8.toNat_ofNat'];exact Nat.mod_eq_of_lt hb
 rw[e];exact h
theorem X5 (x:UInt8):bits .or .u8 (bits .andNot .u8 (x.toNat:Int) (3:Int)) (3:Int)=((Bk x 6).toNat:Int):=by
 have e:bits .and .u8 255 (3:Int)=3:=by decide +kernel
 have h:=U3 x;rw[e] at h;exact h
theorem Uc (x:UInt8):bits .or .u8 (bits .andNot .u8 (x.toNat:Int) (1:Int)) (bits .and .u8 255 (1:Int))=((Bk x 7).toNat:Int):=by
 have h:=EU ⟨x.toNat,x.toNat_lt⟩ ⟨6,by omega⟩;have hb:=Ee ⟨x.toNat,x.toNat_lt⟩ ⟨6,by omega⟩
 have e:(Bk x 7).toNat=x.toNat / 2 ^ (8-7)*2 ^ (8-7)+(2 ^ (8-7)-1):=by
  show(UInt8.ofNat (x.toNat / 2 ^ (8-7)*2 ^ (8-7)+(2 ^ (8-7)-1))).toNat=_
  rw[UInt8.toNat_ofNat'];exact Nat.mod_eq_of_lt hb
 rw[e];exact h
theorem YX (x:UInt8):bits .or .u8 (bits .andNot .u8 (x.toNat:Int) (1:Int)) (1:Int)=((Bk x 7).toNat:Int):=by
 have e:bits .and .u8 255 (1:Int)=1:=by decide +kernel
 have h:=Uc x;rw[e] at h;exact h
theorem Qu (k:List UInt8) (hk:k.length=32) (d:Int) (hd:0≤d∧d≤256) (w:World) :
 Calls Tryz.prog 234 #[.agg (AK k),.int .i64 d,.int .u8 255] w fun e w'=>e=.returned (.tuple #[.agg (AK (last k d)),.int .i64 0])∧Ch (fun _=>False) w w':=by
 obtain⟨Z,hZ⟩:∃Z,Z=AK (List.replicate 32 0):=⟨_,rfl⟩
 have hzh:=Ef;rw[←hZ] at hzh;have hZs:Z.size=32:=by rw[hZ];rfl
 obtain⟨K,hK⟩:∃K,K=AK k:=⟨_,rfl⟩
 rw[←hK];have h0:=hd.1;have h1:=hd.2;have HZ:=(hIq hzh hZs)
 have HK:=Lib.hid hK;have HKL:=Lib.hid hk;clear hZ hzh hZs hK hk hd;go_enter Tryz.func234,Tryz.ntmps234;go_wp2_with (first|((with_reducible show zOq (.alloc 47));refine AI rfl 47 rfl (.agg Z) HZ.out.1 ?_;dsimp only[Value.cells];try simp only[World.size_alloc]));go_loopg [18] 32 (fun g s18 wr=>∃i:Nat,i≤32∧g=32-i∧s18=.int .i64 i∧wr.heap[w.heap.size]?=some (.cells (AK (Cn k d i)) 47 (0,0))∧wr.heap[w.heap.size+1]?=some (.cells Z 47 (0,0))∧Ch (fun _=>False) w wr)
 case atStart =>
  refine⟨0,Nat.zero_le _,rfl,rfl,?_,?_,((Ch.refl _ _).alloc _).alloc _⟩
  · rw[show Cn k d 0=k by simp[Cn], ←HK.out]
    exact AM (heap_alloc_new _ _) _
  have:=heap_alloc_new (w.alloc (.cells K 47)) (.cells Z 47);simpa using this
 obtain⟨i,hi,rfl,rfl,hr,hz,hch⟩:=hrel;by_cases hil:i<32
 · have ea:k[i]?=some (k.getD i 0):=by simp[show i<k.length by rw[HKL.out];exact hil]
   generalize k.getD i 0=x at ea;have hux:=Tg k d i x ea;have hus:=RB k d i x ea;have c1:=AH hr (KS hux);have f1:=Al hr i;have l1:=Ac hr;have hi1:(i:Int)<32:=by omega
   have hi2:(i:Int)≤31:=by omega
   have hi3:i≤31:=by omega
   have wr8:IntKind.i64.wrap (8*(i:Int))=8*(i:Int):=IntWalk.i64_in _ (by omega);by_cases hc1:d-8*(i:Int)≤0
   · have hk0:Bk x (d-8*i)=255:=by unfold Bk;rw[if_pos hc1]
     rw[hk0] at hus;have HU:=Lib.hid hus;have HR:=Lib.hid hr;have HZ2:=Lib.hid hz;have HC:=Lib.hid hch;clear hus hr hz hch ea hux hk0;go_wp2;go_roundg (32-(i+1))
     case measure=>omega
     refine⟨i+1,by omega,rfl,by go_num,?_,Ap HZ2.out (by simp) _,HC.out.setCell (p:=⟨w.heap.size,i,none⟩) (.inr (Nat.le_refl _)) _⟩;have:=AQ HR.out i (bv 255);rw[CF, ←HU.out] at this;exact this
   by_cases hc2:d-8*(i:Int)<8
   · have hr7:d-8*(i:Int)=1∨d-8*(i:Int)=2∨d-8*(i:Int)=3∨d-8*(i:Int)=4∨d-8*(i:Int)=5∨d-8*(i:Int)=6∨d-8*(i:Int)=7:=by omega
     have HU:=Lib.hid hus;have HR:=Lib.hid hr;have HZ2:=Lib.hid hz;have HC:=Lib.hid hch;clear hus hr hz hch ea hux hc1 hc2;rcases hr7 with h7|h7|h7|h7|h7|h7|h7
     · have HH7:=Lib.hid h7
       have hv:=Vg x;have hv0:=W0 x;generalize hy:Bk x 1=y at hv hv0;have HY:=Lib.hid hy;clear hy;go_wp2;go_roundg (32-(i+1))
       case measure=>omega
       refine⟨i+1,by omega,rfl,by go_num,?_,Ap HZ2.out (by simp) _,HC.out.setCell (p:=⟨w.heap.size,i,none⟩) (.inr (Nat.le_refl _)) _⟩;have:=AQ HR.out i (bv y);have e:Cn k d (i+1)=(Cn k d i).set i y:=by rw[HU.out,HH7.out,HY.out]
       rw[CF, ←e] at this;exact this
     · have HH7:=Lib.hid h7
       have hv:=Vt x;have hv0:=Xw x;generalize hy:Bk x 2=y at hv hv0;have HY:=Lib.hid hy;clear hy;go_wp2;go_roundg (32-(i+1))
       case measure=>omega
       refine⟨i+1,by omega,rfl,by go_num,?_,Ap HZ2.out (by simp) _,HC.out.setCell (p:=⟨w.heap.size,i,none⟩) (.inr (Nat.le_refl _)) _⟩;have:=AQ HR.out i (bv y);have e:Cn k d (i+1)=(Cn k d i).set i y:=by rw[HU.out,HH7.out,HY.out]
       rw[CF, ←e] at this;exact this
     · have HH7:=Lib.hid h7
       have hv:=Ui x;have hv0:=XU x;generalize hy:Bk x 3=y at hv hv0;have HY:=Lib.hid hy;clear hy;go_wp2;go_roundg (32-(i+1))
       case measure=>omega
       refine⟨i+1,by omega,rfl,by go_num,?_,Ap HZ2.out (by simp) _,HC.out.setCell (p:=⟨w.heap.size,i,none⟩) (.inr (Nat.le_refl _)) _⟩;have:=AQ HR.out i (bv y);have e:Cn k d (i+1)=(Cn k d i).set i y:=by rw[HU.out,HH7.out,HY.out]
       rw[CF, ←e] at this;exact this
     · have HH7:=Lib.hid h7
       have hv:=VH x;have hv0:=YP x;generalize hy:Bk x 4=y at hv hv0;have HY:=Lib.hid hy;clear hy;go_wp2;go_roundg (32-(i+1))
       case measure=>omega
       refine⟨i+1,by omega,rfl,by go_num,?_,Ap HZ2.out (by simp) _,HC.out.setCell (p:=⟨w.heap.size,i,none⟩) (.inr (Nat.le_refl _)) _⟩;have:=AQ HR.out i (bv y);have e:Cn k d (i+1)=(Cn k d i).set i y:=by rw[HU.out,HH7.out,HY.out]
       rw[CF, ←e] at this;exact this
     · have HH7:=Lib.hid h7
       have hv:=VZ x;have hv0:=YB x;generalize hy:Bk x 5=y at hv hv0;have HY:=Lib.hid hy;clear hy;go_wp2;go_roundg (32-(i+1))
       case measure=>omega
       refine⟨i+1,by omega,rfl,by go_num,?_,Ap HZ2.out (by simp) _,HC.out.setCell (p:=⟨w.heap.size,i,none⟩) (.inr (Nat.le_refl _)) _⟩;have:=AQ HR.out i (bv y);have e:Cn k d (i+1)=(Cn k d i).set i y:=by rw[HU.out,HH7.out,HY.out]
       rw[CF, ←e] at this;exact this
     · have HH7:=Lib.hid h7
       have hv:=U3 x;have hv0:=X5 x;generalize hy:Bk x 6=y at hv hv0;have HY:=Lib.hid hy;clear hy;go_wp2;go_roundg (32-(i+1))
       case measure=>omega
       refine⟨i+1,by omega,rfl,by go_num,?_,Ap HZ2.out (by simp) _,HC.out.setCell (p:=⟨w.heap.size,i,none⟩) (.inr (Nat.le_refl _)) _⟩;have:=AQ HR.out i (bv y);have e:Cn k d (i+1)=(Cn k d i).set i y:=by rw[HU.out,HH7.out,HY.out]
       rw[CF, ←e] at this;exact this
     have HH7:=Lib.hid h7;have hv:=Uc x;have hv0:=YX x;generalize hy:Bk x 7=y at hv hv0;have HY:=Lib.hid hy;clear hy;go_wp2;go_roundg (32-(i+1))
     case measure=>omega
     refine⟨i+1,by omega,rfl,by go_num,?_,Ap HZ2.out (by simp) _,HC.out.setCell (p:=⟨w.heap.size,i,none⟩) (.inr (Nat.le_refl _)) _⟩;have:=AQ HR.out i (bv y);have e:Cn k d (i+1)=(Cn k d i).set i y:=by rw[HU.out,HH7.out,HY.out]
     rw[CF, ←e] at this;exact this
   have hk0:Bk x (d-8*i)=x:=by unfold Bk;rw[if_neg hc1,if_neg hc2]
   have hse:(Cn k d i).set i x=Cn k d i:=by
    obtain⟨hlt,he⟩:=List.getElem?_eq_some_iff.1 hux;rw[←he,List.set_getElem_self]
   rw[hk0,hse] at hus;have HU:=Lib.hid hus;have HR:=Lib.hid hr;have HZ2:=Lib.hid hz;have HC:=Lib.hid hch;have hc3:0<d-8*(i:Int):=by omega
   have hc4:8≤d-8*(i:Int):=by omega
   clear hus hr hz hch ea hux hk0 hse hc1 hc2;go_wp2;go_roundg (32-(i+1))
   case measure=>omega
   exact⟨i+1,by omega,rfl,by go_num,by rw[HU.out];exact HR.out,HZ2.out,HC.out⟩
 have h32:i=k.length:=by rw[HKL.out];omega
 have hd32:decide ((i:Int)<32)=false:=by rw[decide_eq_false_iff_not];have:=HKL.out;omega
 rw[h32,Ri] at hr;obtain⟨O,hO⟩:∃O,O=AK (last k d):=⟨_,rfl⟩
 have hos:O.size=32:=by rw[hO,AN,D4,HKL.out]
 have ho1:=Ae (last k d);rw[←hO] at hr ho1;have HO:=(hIq hr (aIq hos ho1))
 have HO':=Lib.hid hO;have HZ2:=Lib.hid hz;have HC2:=Lib.hid hch;clear hr hos ho1 hO hz hch hil h32
 go_wp2_with (first
  | ((with_reducible show zOq (.load 47 _));refine AG rfl 47 _ rfl w.heap.size 0 rfl HO.out.1 Tryz.underlying47 rfl AY (by rw[HO.out.2.1];omega) O (by simp[←HO.out.2.1]) ?_)
  | ((with_reducible show zOq (.store 47 _ _));refine AE rfl 47 _ _ rfl (w.heap.size+1) 0 O rfl rfl HZ2.out (by rw[AY,HO.out.2.1]) (by rw[HO.out.2.1,HZ.out.2];omega) HO.out.2.2 O (by rw[AJ _ _ (by rw[Array.length_toList,Array.length_toList,HO.out.2.1,HZ.out.2])]) ?_))
 exact Ag (p:=6) (u:=7) rfl rfl (AF HZ2.out _) Tryz.underlying47 rfl (by rw[AY,HO.out.2.1]) rfl ⟨by rw[HO'.out];rfl,HC2.out.setRow (.inr (by omega)) _⟩
theorem XC (k:List UInt8) (hk:k.length=32) (d:Int) (hd:0≤d∧d≤256) (w:World) :
 Calls Tryz.prog 172 #[.agg (AK k),.int .i64 d] w fun e w'=>e=.returned (.tuple #[.agg (AK (last k d)),.int .i64 0])∧Ch (fun _=>False) w w':=by
 have hcall:=Qu k hk d hd;obtain⟨Z,hZ⟩:∃Z,Z=AK (List.replicate 32 0):=⟨_,rfl⟩
 have hzh:=Ef;rw[←hZ] at hzh;have hZs:Z.size=32:=by rw[hZ];rfl
 obtain⟨K,hK⟩:∃K,K=AK k:=⟨_,rfl⟩
 have hKs:K.size=32:=by rw[hK,AN,hk]
 obtain⟨O,hO⟩:∃O,O=AK (last k d):=⟨_,rfl⟩
 have hos:O.size=32:=by rw[hO,AN,D4,hk]
 have ho1:=Ae (last k d);rw[←hK, ←hO] at hcall;rw[←hO] at ho1;rw[←hK];have HC:=Lib.hid hcall;have HZ:=(hIq hzh hZs)
 have HK:=Lib.hid hKs;have HO:=(hIq hO (aIq hos ho1))
 clear hcall hZ hzh hZs hK hKs hO hos ho1 hk hd;go_enter Tryz.func172,Tryz.ntmps172
 go_wp2_with (first
  | ((with_reducible show zOq (.alloc 47));refine AI rfl 47 rfl (.agg Z) HZ.out.1 ?_;dsimp only[Value.cells];try simp only[World.size_alloc])
  | ((with_reducible show zOq (.load 47 _));refine AG rfl 47 _ rfl w.heap.size 0 rfl (AM (heap_alloc_new _ _) _) Tryz.underlying47 rfl AY (by rw[HK.out];omega) K (by simp[←HK.out]) ?_))
 refine(HC.out _).mono ?_;rintro e w4 ⟨rfl,hc4⟩
 have hz4:=hc4.row (show((w.alloc (.cells K 47)).alloc (.cells Z 47)).heap[w.heap.size+1]?=some (.cells Z 47 (0,0)) by
  have:=heap_alloc_new (w.alloc (.cells K 47)) (.cells Z 47);simpa using this) id
 have hw4:=(((Ch.refl (fun _=>False) w).alloc (.cells K 47)).alloc (.cells Z 47)).trans hc4 (fun _=>fEq);have Z4:=Lib.hid hz4;have W4:=Lib.hid hw4;clear hc4 hz4 hw4
 go_wp2_with (first
  | ((with_reducible show zOq (.store 47 _ _));refine AE rfl 47 _ _ rfl (w.heap.size+1) 0 O rfl rfl Z4.out (by rw[AY,HO.out.2.1]) (by rw[HO.out.2.1,HZ.out.2];omega) HO.out.2.2 O (by rw[AJ _ _ (by rw[Array.length_toList,Array.length_toList,HO.out.2.1,HZ.out.2])]) ?_))
 exact Ag (p:=4) (u:=5) rfl rfl (AF Z4.out _) Tryz.underlying47 rfl (by rw[AY,HO.out.2.1]) rfl ⟨by rw[HO.out.1];rfl,W4.out.setRow (.inr (by omega)) _⟩
end Go.Proofs.YtngbdbpofifimaaGreat.Path
namespace Go.Proofs.YtngbdbpofifimaaGreat.Store
open Go.RowKit Go.Proofs.YtngbdbpofifimaaGreat.ShaW Go.Proofs.YtngbdbpofifimaaGreat.Path
theorem cmp_lastFrom:∀(e k:List UInt8) (d i:Int),e.length=k.length→(∀j:Nat,(j:Int)<d-8*i→AU e j=AU k j)→¬Lib.compareBytes (Di d i k) e<0
 | [],[],d,i,_,_=>by simp[Di,Lib.compareBytes]
 | [],_::_,d,i,h,_=>by simp at h
 | _::_,[],d,i,h,_=>by simp at h
 | y::e,x::k,d,i,h,hp=>by
  have ih:=cmp_lastFrom e k d (i+1) (by simpa using h) (fun j hj=>by
   have:=hp (j+8) (by omega)
   rwa [JQ,JQ] at this)
  have hb:∀j:Nat,j<8→(j:Int)<d-8*i→CV y j=CV x j:=fun j hj hd=>by
   have:=hp j hd
   rwa [Fg y e hj,Fg x k hj] at this
  have hle:y.toNat≤(Bk x (d-8*i)).toNat:=by
   unfold Bk;split
   · have:=y.toNat_lt;show _≤255;omega
   rename_i h0;split
   · rename_i h8
     obtain⟨c,hc⟩:∃c:Nat,d-8*i=(c:Int):=⟨(d-8*i).toNat,by omega⟩
     rw[hc];have hc8:c<8:=by omega
     have hc0:0<c:=by omega
     have he:=LG y x c (by omega) (fun j hj=>hb j (by omega) (by omega));have hlt:=Ee ⟨x.toNat,x.toNat_lt⟩ ⟨c-1,by omega⟩;simp only[show c-1+1=c by omega] at hlt;rw[Int.toNat_natCast,UInt8.toNat_ofNat',Nat.mod_eq_of_lt hlt, ←he];have h1:=Nat.div_add_mod y.toNat (2 ^ (8-c));have h2:=Nat.mod_lt y.toNat (Nat.two_pow_pos (8-c));rw[Nat.mul_comm] at h1;omega
   rename_i h8;have:y=x:=Rw y x (fun j hj=>hb j hj (by omega));rw[this];exact Nat.le_refl _
  unfold Di Lib.compareBytes;have h1:¬Bk x (d-8*i)<y:=fun h=>by rw[QS] at h;omega
  rw[if_neg h1];split
  · omega
  exact ih
theorem Xa {e k:List UInt8} {d:Nat} (h:e.length=k.length) (hp:Pre e k d):¬Lib.compareBytes (last k d) e<0 :=
 cmp_lastFrom e k d 0 h (fun j hj=>hp j (by omega))
def Tr.ents:Tr→AS
 | .nil => []
 | .leaf k v => [(k,v)]
 | .node l r=>l.ents++r.ents
theorem Tr.Eh:∀t:Tr,t.ents.length=t.leaves
 | .nil=>rfl
 | .leaf _ _=>rfl
 | .node l r=>by
  show(l.ents++r.ents).length=l.leaves+r.leaves
  rw[List.length_append,l.Eh,r.Eh]
def Ltk (p q:List UInt8×List UInt8):Prop:=Lib.compareBytes p.1 q.1<0
theorem Rep.Ly {f:View} (hz:f 0=none) {d:Nat} {t:Tr} (hr:Rep f 0 d t):t=.nil:=by
 cases hr with
 | nil=>rfl
 | leaf hn _=>rw[hz] at hn;cases hn
 | node hn _ _ _ _=>rw[hz] at hn;cases hn
theorem Rep.ents {f:View} (hf:Fit f) {h:Int} {d:Nat} {t:Tr} (hr:Rep f h d t) :
 (∀e∈t.ents,e.1.length=32∧e.2.length≤1024)∧(∀n,f h=some n→∀e∈t.ents,(n.kind=2→Pre e.1 n.key d)∧(n.kind≠2→e.1=n.key))∧t.ents.Pairwise Ltk:=by
 induction hr with
 | nil=>exact⟨fun e he=>(by cases he),fun n hn=>(by rw[hf.zero] at hn;cases hn),List.Pairwise.nil⟩
 | @leaf h d n hn hk =>
  obtain⟨_,ho⟩:=hf.leaf hn (by omega);refine⟨fun e he=>?_,fun m hm e he=>?_,List.pairwise_singleton _ _⟩
  · obtain rfl:=List.mem_singleton.1 he
    exact⟨ho.key,ho.value⟩
  obtain rfl:=List.mem_singleton.1 he;rw[hn] at hm;cases hm;exact⟨fun h2=>absurd h2 (by omega),fun _=>rfl⟩
 | @node h d n l r hn hk hd hl hr ihl ihr =>
  obtain⟨al,bl,cl⟩:=ihl;obtain⟨ar,br,cr⟩:=ihr;obtain⟨p1,p2⟩:=hf.pre hn hk hd (k:=n.key) (fun _ _=>rfl);obtain⟨q1,q2⟩:=hf.kids hn hk;have hd1:=(hf.inner hn hk).d1;have hlt:d<256:=by omega
  have left:∀e∈l.ents,Pre e.1 n.key d∧AU e.1 d=0:=fun e he=>by
   rcases hl.live with h0|⟨y,hy⟩
   · rw[h0] at hl;rw[hl.Ly hf.zero] at he;cases he
   have hb:AU y.key d=0:=II hlt (by have:=(q1 y hy).2;rw[hd] at this;exact this);by_cases h2:y.kind=2
   · have hp:=(bl y hy e he).1 h2
     exact⟨(hp.less (Nat.le_succ d)).trans (p1 y hy),(hp d (Nat.lt_succ_self d)).trans hb⟩
   rw[(bl y hy e he).2 h2];exact⟨p1 y hy,hb⟩
  have right:∀e∈r.ents,Pre e.1 n.key d∧AU e.1 d=1:=fun e he=>by
   rcases hr.live with h0|⟨y,hy⟩
   · rw[h0] at hr;rw[hr.Ly hf.zero] at he;cases he
   have hb:AU y.key d=1:=II hlt (by have:=(q2 y hy).2;rw[hd] at this;exact this);by_cases h2:y.kind=2
   · have hp:=(br y hy e he).1 h2
     exact⟨(hp.less (Nat.le_succ d)).trans (p2 y hy),(hp d (Nat.lt_succ_self d)).trans hb⟩
   rw[(br y hy e he).2 h2];exact⟨p2 y hy,hb⟩
  refine⟨fun e he=>(List.mem_append.1 he).elim (al e) (ar e),fun m hm e he=>?_,List.pairwise_append.2 ⟨cl,cr,fun a ha b hb=>?_⟩⟩
  · rw[hn] at hm
    cases hm;exact⟨fun _=>(List.mem_append.1 he).elim (fun h=>(left e h).1) (fun h=>(right e h).1),fun h2=>absurd hk h2⟩
  obtain⟨a1,a2⟩:=left a ha;obtain⟨b1,b2⟩:=right b hb;unfold Ltk;rw[MG a.1 b.1 d (by rw[(al a ha).1,(ar b hb).1]) (by rw[(al a ha).1];omega) (a1.trans b1.symm) a2 b2]
  decide
theorem Rep.slot {f:View} {h:Int} {d:Nat} {t:Tr} (hr:Rep f h d t):∀e∈t.ents,∃k n,f k=some n∧n.key=e.1:=by
 induction hr with
 | nil=>exact fun e he=>by cases he
 | leaf hn hk =>
  intro e he;obtain rfl:=List.mem_singleton.1 he;exact⟨_,_,hn,rfl⟩
 | node _ _ _ _ _ ihl ihr=>exact fun e he=>(List.mem_append.1 he).elim (ihl e) (ihr e)
theorem XM {σ:AD Nd} (G:Good σ) {h:Int} {d:Nat} {t:Tr} (hr:Rep (sk σ) h d t):t.ents.length≤σ.slots.length:=by
 have hs:=hr.slot;have hp:=(hr.ents G.fit).2.2
 have hch:∃g:List UInt8×List UInt8→Int,∀e∈t.ents,∃n,sk σ (g e)=some n∧n.key=e.1:=by
  refine⟨fun e=>if he:e∈t.ents then Classical.choose (hs e he) else 0,fun e he=>?_⟩;simp only[dif_pos he];exact Classical.choose_spec (hs e he)
 obtain⟨g,hg⟩:=hch
 have hnd:(t.ents.map (fun e=>(g e).toNat)).Nodup:=by
  rw[List.Nodup,List.pairwise_map];refine hp.imp_of_mem ?_;intro a b ha hb hlt e;obtain⟨n,hn,hnk⟩:=hg a ha;obtain⟨m,hm,hmk⟩:=hg b hb;obtain⟨x,hx,_⟩:=FC hn;obtain⟨y,hy,_⟩:=FC hm;obtain⟨i,hi,_⟩:=AD.Ad hx;obtain⟨j,hj,_⟩:=AD.Ad hy;have:g a=g b:=by omega
  rw[this,hm] at hn;cases hn;unfold Ltk at hlt;rw[←hnk, ←hmk,Hs] at hlt;omega
 have hsub:∀x∈t.ents.map (fun e=>(g e).toNat),x∈List.range' 1 σ.slots.length:=fun x hx=>by
  obtain⟨e,he,rfl⟩:=List.mem_map.1 hx;obtain⟨n,hn,_⟩:=hg e he;obtain⟨y,hy,_⟩:=FC hn;obtain⟨i,hi,_,_,hlt⟩:=AD.Ad hy;simp only[List.mem_range'_1];omega
 have:=CY _ _ hnd hsub;simpa using this
theorem Lo (d:Nat):∀L:AS,(sideE 0 d L++sideE 1 d L).Perm L
 | []=>.refl _
 | p::L=>by
  have ih:=Lo d L;unfold sideE at ih ⊢;rw[List.filter_cons,List.filter_cons];rcases Au p.1 d with h|h
  · simp only[h]
    exact ih.cons p
  simp only[h];exact List.perm_middle.trans (ih.cons p)
theorem SV:∀m,m≤256→∀ {L:AS} {k:List UInt8},L.Ok k (256-m)→(tree m L).ents.Perm L:=by
 intro m
 induction m with
 | zero =>
  intro _ L k hO
  match L,hO.few with
  | [],_=>exact .refl _
  | [p],_=>exact .refl _
  | _::_::_,hf=>simp at hf
 | succ m ih =>
  intro hm L k hO;by_cases h2:2≤L.length
  · rw[Bu h2]
    obtain⟨k0,o0⟩:=QA hO 0;obtain⟨k1,o1⟩:=QA hO 1;rw[show 256-(m+1)+1=256-m by omega,show 256-(m+1)=255-m by omega] at o0 o1;exact((ih (by omega) o0).append (ih (by omega) o1)).trans (Lo _ L)
  match L,h2 with
  | [],_=>exact .refl _
  | [p],_=>exact .refl _
  | _::_::_,h2=>exact absurd (by simp) h2
theorem Db.ents {σ:AD Nd} {root:Int} {L:AS} (D:Db σ root L):(tree 256 L).ents.Perm L:=SV 256 (Nat.le_refl _) (k := []) (AS.Ok.any D.nodup D.len [])
def geK (key:List UInt8) (e:List UInt8×List UInt8):Bool := !decide (Lib.compareBytes e.1 key<0)
def ltK (key:List UInt8) (e:List UInt8×List UInt8):Bool:=decide (Lib.compareBytes e.1 key<0)
def Tr.from (t:Tr) (key:List UInt8):AS:=t.ents.filter (geK key)
def Tr.Dj (t:Tr) (key:List UInt8):Nat:=(t.ents.filter (ltK key)).length
theorem Tr.Sx (l r:Tr) (key:List UInt8):(Tr.node l r).from key=l.from key++r.from key:=List.filter_append _ _
theorem T9 {t:Tr} {key:List UInt8} (h:∀e∈t.ents,Lib.compareBytes e.1 key<0):t.from key = [] :=
 List.filter_eq_nil_iff.2 (fun e he=>by unfold geK;simp[h e he])
theorem UW (t:Tr) (key:List UInt8):t.Dj key+(t.from key).length=t.leaves:=by
 unfold Tr.Dj Tr.from;rw[←Tr.Eh]
 induction t.ents with
 | nil=>rfl
 | cons e l ih =>
  rw[List.filter_cons,List.filter_cons];by_cases h:Lib.compareBytes e.1 key<0
  · simp[geK,ltK,h] at ih ⊢;omega
  simp[geK,ltK,h] at ih ⊢;omega
def M0:List UInt8→List UInt8×Bool
 | []=>([],false)
 | x::l=>if (M0 l).2=true then (x::(M0 l).1,true) else if x=255 then (0::(M0 l).1,false) else ((x+1)::(M0 l).1,true)
theorem Nn:∀(e:List UInt8),¬Lib.compareBytes e (List.replicate e.length 0)<0
 | []=>by simp[Lib.compareBytes]
 | y::e=>by
  rw[List.length_cons,List.replicate_succ];unfold Lib.compareBytes;have h1:¬y<0:=fun h=>by rw[QS] at h;simp at h
  rw[if_neg h1];split
  · omega
  exact Nn e
end Go.Proofs.YtngbdbpofifimaaGreat.Store
namespace Go.Proofs.YtngbdbpofifimaaGreat.Store
open Go.RowKit Go.Sort Go.Proofs.YtngbdbpofifimaaGreat.ShaW Go.Proofs.YtngbdbpofifimaaGreat.Path
theorem Pq (a b:List UInt8) (ha:a.length=32) (hb:b.length=32) (w:World) :
 Calls Tryz.prog 164 #[.agg (AK a),.agg (AK b)] w fun e w'=>e=.returned (.int .i64 (Lib.compareBytes a b))∧Adds w w' :=
 (Path.Iz a b ha hb w).mono fun e w' ⟨he,q,os,hw⟩=>⟨he,by
  subst hw;refine⟨rfl,rfl,rfl,by simp[grow],fun k hk _=>?_⟩
  show(w.heap++os)[k]?=_
  rw[Array.getElem?_append_left hk]⟩
theorem DV {w:World} {s:Nat} {F:Nat→Prop} {σ:AD Nd} (h:At w s F σ) (G:Good σ) {n:Int} {d:Nat} {t:Tr} (hr:Rep (sk σ) n d t):(nd σ n).size=(t.leaves:Int)∧t.leaves≤65536:=by
 have h1:=hr.size G.fit;rw[Eo] at h1;have h2:=XM G hr;rw[Tr.Eh] at h2;have:=h.len;have:=h.room;refine⟨?_,by omega⟩
 show(stat (nd σ n)).size=_
 rw[h1];unfold wrap64;omega
end Go.Proofs.YtngbdbpofifimaaGreat.Store

/- Laws of the layers below. -/
import Derived.Test.YtooijgcildbnlaaGreatQg15
set_option maxHeartbeats 3200000
set_option maxRecDepth 100000
set_option linter.unusedVariables false
namespace Go.Proofs.YtooijgcildbnlaaGreat.Path
open Go.RowKit
def Bo (x:UInt8) (Am:Int):UInt8:=if Am≤0 then 255 else if Am<8 then UInt8.ofNat (x.toNat / 2 ^ (8-Am.toNat)*2 ^ (8-Am.toNat)+(2 ^ (8-Am.toNat)-1)) else x
def DJ (d:Int):Int→List UInt8→List UInt8
 | _,[] => []
 | i,x::l=>Bo x (d-8*i)::DJ d (i+1) l
def last (k:List UInt8) (d:Int):List UInt8:=DJ d 0 k
theorem GP (d:Int):∀(i:Int) (l:List UInt8),(DJ d i l).length=l.length
 | _,[]=>rfl
 | i,x::l=>by simp[DJ,GP d (i+1) l]
theorem Dd (k:List UInt8) (d:Int):(last k d).length=k.length:=GP d 0 k
theorem IP (d:Int):∀(i:Int) (l:List UInt8) (n:Nat) (x:UInt8),l[n]?=some x→(DJ d i l)[n]?=some (Bo x (d-8*(i+n)))
 | _,[],_,_,h=>by simp at h
 | i,y::l,0,x,h=>by
  simp at h;subst h;simp[DJ]
 | i,y::l,n+1,x,h=>by
  have:=IP d (i+1) l n x (by simpa using h);rw[DJ,List.getElem?_cons_succ,this]
  congr 2
  omega
def Cb (k:List UInt8) (d:Int) (i:Nat):List UInt8:=(last k d).take i++k.drop i
theorem Q5 (k:List UInt8) (d:Int) (i:Nat) (x:UInt8) (h:k[i]?=some x):(Cb k d i)[i]?=some x:=by
 have hi:=(List.getElem?_eq_some_iff.1 h).1;have hl:((last k d).take i).length=i:=by simp[Dd];omega
 rw[Cb,List.getElem?_append_right (by omega),hl,Nat.sub_self,List.getElem?_drop];exact h
theorem Pd (k:List UInt8) (d:Int) (i:Nat) (x:UInt8) (h:k[i]?=some x):Cb k d (i+1)=(Cb k d i).set i (Bo x (d-8*i)):=by
 have hi:=(List.getElem?_eq_some_iff.1 h).1;have hl:((last k d).take i).length=i:=by simp[Dd];omega
 have hf:=IP d 0 k i x h;unfold Cb;rw[List.set_append_right _ _ (by omega),hl,Nat.sub_self,List.take_add_one];rw[show(last k d)[i]?=some (Bo x (d-8*i)) by rw[last,hf];congr 2;omega];rw[List.drop_eq_getElem_cons hi,List.set_cons_zero,Option.toList_some,List.append_assoc,List.singleton_append]
theorem QC (k:List UInt8) (d:Int):Cb k d k.length=last k d:=by
 rw[Cb,List.take_of_length_le (by rw[Dd];exact Nat.le_refl _),List.drop_length,List.append_nil]
theorem D6:∀(x:Fin 256) (r:Fin 7),bits .or .u8 (bits .andNot .u8 (x.val:Int) ((255 / 2 ^ (r.val+1):Nat):Int)) (bits .and .u8 255 ((255 / 2 ^ (r.val+1):Nat):Int))=((x.val / 2 ^ (8-(r.val+1))*2 ^ (8-(r.val+1))+(2 ^ (8-(r.val+1))-1):Nat):Int):=by decide +kernel
theorem EN:∀(x:Fin 256) (r:Fin 7),x.val / 2 ^ (8-(r.val+1))*2 ^ (8-(r.val+1))+(2 ^ (8-(r.val+1))-1)<256:=by decide +kernel
theorem Ug (x:UInt8):bits .or .u8 (bits .andNot .u8 (x.toNat:Int) (127:Int)) (bits .and .u8 255 (127:Int))=((Bo x 1).toNat:Int):=by
 have h:=D6 ⟨x.toNat,x.toNat_lt⟩ ⟨0,by omega⟩;have hb:=EN ⟨x.toNat,x.toNat_lt⟩ ⟨0,by omega⟩
 have e:(Bo x 1).toNat=x.toNat / 2 ^ (8-1)*2 ^ (8-1)+(2 ^ (8-1)-1):=by
  show(UInt8.ofNat (x.toNat / 2 ^ (8-1)*2 ^ (8-1)+(2 ^ (8-1)-1))).toNat=_
  rw[UInt8.toNat_ofNat'];exact Nat.mod_eq_of_lt hb
 rw[e];exact h
theorem Vs (x:UInt8):bits .or .u8 (bits .andNot .u8 (x.toNat:Int) (127:Int)) (127:Int)=((Bo x 1).toNat:Int):=by
 have e:bits .and .u8 255 (127:Int)=127:=by decide +kernel
 have h:=Ug x;rw[e] at h;exact h
theorem US (x:UInt8):bits .or .u8 (bits .andNot .u8 (x.toNat:Int) (63:Int)) (bits .and .u8 255 (63:Int))=((Bo x 2).toNat:Int):=by
 have h:=D6 ⟨x.toNat,x.toNat_lt⟩ ⟨1,by omega⟩;have hb:=EN ⟨x.toNat,x.toNat_lt⟩ ⟨1,by omega⟩
 have e:(Bo x 2).toNat=x.toNat / 2 ^ (8-2)*2 ^ (8-2)+(2 ^ (8-2)-1):=by
  show(UInt8.ofNat (x.toNat / 2 ^ (8-2)*2 ^ (8-2)+(2 ^ (8-2)-1))).toNat=_
  rw[UInt8.toNat_ofNat'];exact Nat.mod_eq_of_lt hb
 rw[e];exact h
theorem WI (x:UInt8):bits .or .u8 (bits .andNot .u8 (x.toNat:Int) (63:Int)) (63:Int)=((Bo x 2).toNat:Int):=by
 have e:bits .and .u8 255 (63:Int)=63:=by decide +kernel
 have h:=US x;rw[e] at h;exact h
theorem TX (x:UInt8):bits .or .u8 (bits .andNot .u8 (x.toNat:Int) (31:Int)) (bits .and .u8 255 (31:Int))=((Bo x 3).toNat:Int):=by
 have h:=D6 ⟨x.toNat,x.toNat_lt⟩ ⟨2,by omega⟩;have hb:=EN ⟨x.toNat,x.toNat_lt⟩ ⟨2,by omega⟩
 have e:(Bo x 3).toNat=x.toNat / 2 ^ (8-3)*2 ^ (8-3)+(2 ^ (8-3)-1):=by
  show(UInt8.ofNat (x.toNat / 2 ^ (8-3)*2 ^ (8-3)+(2 ^ (8-3)-1))).toNat=_
  rw[UInt8.toNat_ofNat'];exact Nat.mod_eq_of_lt hb
 rw[e];exact h
theorem WB (x:UInt8):bits .or .u8 (bits .andNot .u8 (x.toNat:Int) (31:Int)) (31:Int)=((Bo x 3).toNat:Int):=by
 have e:bits .and .u8 255 (31:Int)=31:=by decide +kernel
 have h:=TX x;rw[e] at h;exact h
theorem T7 (x:UInt8):bits .or .u8 (bits .andNot .u8 (x.toNat:Int) (15:Int)) (bits .and .u8 255 (15:Int))=((Bo x 4).toNat:Int):=by
 have h:=D6 ⟨x.toNat,x.toNat_lt⟩ ⟨3,by omega⟩;have hb:=EN ⟨x.toNat,x.toNat_lt⟩ ⟨3,by omega⟩
 have e:(Bo x 4).toNat=x.toNat / 2 ^ (8-4)*2 ^ (8-4)+(2 ^ (8-4)-1):=by
  show(UInt8.ofNat (x.toNat / 2 ^ (8-4)*2 ^ (8-4)+(2 ^ (8-4)-1))).toNat=_
  rw[UInt8.toNat_ofNat'];exact Nat.mod_eq_of_lt hb
 rw[e];exact h
theorem Vx (x:UInt8):bits .or .u8 (bits .andNot .u8 (x.toNat:Int) (15:Int)) (15:Int)=((Bo x 4).toNat:Int):=by
 have e:bits .and .u8 255 (15:Int)=15:=by decide +kernel
 have h:=T7 x;rw[e] at h;exact h
theorem TZ (x:UInt8):bits .or .u8 (bits .andNot .u8 (x.toNat:Int) (7:Int)) (bits .and .u8 255 (7:Int))=((Bo x 5).toNat:Int):=by
 have h:=D6 ⟨x.toNat,x.toNat_lt⟩ ⟨4,by omega⟩;have hb:=EN ⟨x.toNat,x.toNat_lt⟩ ⟨4,by omega⟩
 have e:(Bo x 5).toNat=x.toNat / 2 ^ (8-5)*2 ^ (8-5)+(2 ^ (8-5)-1):=by
  show(UInt8.ofNat (x.toNat / 2 ^ (8-5)*2 ^ (8-5)+(2 ^ (8-5)-1))).toNat=_
  rw[UInt8.toNat_ofNat'];exact Nat.mod_eq_of_lt hb
 rw[e];exact h
theorem Vy (x:UInt8):bits .or .u8 (bits .andNot .u8 (x.toNat:Int) (7:Int)) (7:Int)=((Bo x 5).toNat:Int):=by
 have e:bits .and .u8 255 (7:Int)=7:=by decide +kernel
 have h:=TZ x;rw[e] at h;exact h
theorem Tb (x:UInt8):bits .or .u8 (bits .andNot .u8 (x.toNat:Int) (3:Int)) (bits .and .u8 255 (3:Int))=((Bo x 6).toNat:Int):=by
 have h:=D6 ⟨x.toNat,x.toNat_lt⟩ ⟨5,by omega⟩;have hb:=EN ⟨x.toNat,x.toNat_lt⟩ ⟨5,by omega⟩
 have e:(Bo x 6).toNat=x.toNat / 2 ^ (8-6)*2 ^ (8-6)+(2 ^ (8-6)-1):=by
  show(UInt8.ofNat (x.toNat / 2 ^ (8-6)*2 ^ (8-6)+(2 ^ (8-6)-1))).toNat=_
  rw[UInt8.toNat_ofNat'];exact Nat.mod_eq_of_lt hb
 rw[e];exact h
theorem U8 (x:UInt8):bits .or .u8 (bits .andNot .u8 (x.toNat:Int) (3:Int)) (3:Int)=((Bo x 6).toNat:Int):=by
 have e:bits .and .u8 255 (3:Int)=3:=by decide +kernel
 have h:=Tb x;rw[e] at h;exact h
theorem Su (x:UInt8):bits .or .u8 (bits .andNot .u8 (x.toNat:Int) (1:Int)) (bits .and .u8 255 (1:Int))=((Bo x 7).toNat:Int):=by
 have h:=D6 ⟨x.toNat,x.toNat_lt⟩ ⟨6,by omega⟩;have hb:=EN ⟨x.toNat,x.toNat_lt⟩ ⟨6,by omega⟩
 have e:(Bo x 7).toNat=x.toNat / 2 ^ (8-7)*2 ^ (8-7)+(2 ^ (8-7)-1):=by
  show(UInt8.ofNat (x.toNat / 2 ^ (8-7)*2 ^ (8-7)+(2 ^ (8-7)-1))).toNat=_
  rw[UInt8.toNat_ofNat'];exact Nat.mod_eq_of_lt hb
 rw[e];exact h
theorem VU (x:UInt8):bits .or .u8 (bits .andNot .u8 (x.toNat:Int) (1:Int)) (1:Int)=((Bo x 7).toNat:Int):=by
 have e:bits .and .u8 255 (1:Int)=1:=by decide +kernel
 have h:=Su x;rw[e] at h;exact h
theorem PN (k:List UInt8) (hk:k.length=32) (d:Int) (hd:0≤d∧d≤256) (w:World) :
 Calls Tryz.prog 232 #[.agg (AJ k),.int .i64 d,.int .u8 255] w fun e w'=>e=.returned (.tuple #[.agg (AJ (last k d)),.int .i64 0])∧Ch (fun _=>False) w w':=by
 obtain⟨Z,hZ⟩:∃Z,Z=AJ (List.replicate 32 0):=⟨_,rfl⟩
 have hzh:=Gf;rw[←hZ] at hzh;have hZs:Z.size=32:=by rw[hZ];rfl
 obtain⟨K,hK⟩:∃K,K=AJ k:=⟨_,rfl⟩
 rw[←hK];have h0:=hd.1;have h1:=hd.2;have HZ:=(hIq hzh hZs)
 have HK:=Lib.hid hK;have HKL:=Lib.hid hk;clear hZ hzh hZs hK hk hd;go_enter Tryz.func232,Tryz.ntmps232;go_wp2_with (first|((with_reducible show zOq (.alloc 24));refine AH rfl 24 rfl (.agg Z) HZ.out.1 ?_;dsimp only[Value.cells];try simp only[World.size_alloc]));go_loopg [18] 32 (fun g s18 wr=>∃i:Nat,i≤32∧g=32-i∧s18=.int .i64 i∧wr.heap[w.heap.size]?=some (.cells (AJ (Cb k d i)) 24 (0,0))∧wr.heap[w.heap.size+1]?=some (.cells Z 24 (0,0))∧Ch (fun _=>False) w wr)
 case atStart =>
  refine⟨0,Nat.zero_le _,rfl,rfl,?_,?_,((Ch.refl _ _).alloc _).alloc _⟩
  · rw[show Cb k d 0=k by simp[Cb], ←HK.out]
    exact AM (heap_alloc_new _ _) _
  have:=heap_alloc_new (w.alloc (.cells K 24)) (.cells Z 24);simpa using this
 obtain⟨i,hi,rfl,rfl,hr,hz,hch⟩:=hrel;by_cases hil:i<32
 · have ea:k[i]?=some (k.getD i 0):=by simp[show i<k.length by rw[HKL.out];exact hil]
   generalize k.getD i 0=x at ea;have hux:=Q5 k d i x ea;have hus:=Pd k d i x ea;have c1:=AG hr (I7 hux);have f1:=Ao hr i;have l1:=Ad hr;have hi1:(i:Int)<32:=by omega
   have hi2:(i:Int)≤31:=by omega
   have hi3:i≤31:=by omega
   have wr8:IntKind.i64.wrap (8*(i:Int))=8*(i:Int):=IntWalk.i64_in _ (by omega);by_cases hc1:d-8*(i:Int)≤0
   · have hk0:Bo x (d-8*i)=255:=by unfold Bo;rw[if_pos hc1]
     rw[hk0] at hus;have HU:=Lib.hid hus;have HR:=Lib.hid hr;have HZ2:=Lib.hid hz;have HC:=Lib.hid hch;clear hus hr hz hch ea hux hk0;go_wp2;go_roundg (32-(i+1))
     case measure=>omega
     refine⟨i+1,by omega,rfl,by go_num,?_,Ak HZ2.out (by simp) _,HC.out.setCell (p:=⟨w.heap.size,i,none⟩) (.inr (Nat.le_refl _)) _⟩;have:=Aa HR.out i (bv 255);rw[Br, ←HU.out] at this;exact this
   by_cases hc2:d-8*(i:Int)<8
   · have hr7:d-8*(i:Int)=1∨d-8*(i:Int)=2∨d-8*(i:Int)=3∨d-8*(i:Int)=4∨d-8*(i:Int)=5∨d-8*(i:Int)=6∨d-8*(i:Int)=7:=by omega
     have HU:=Lib.hid hus;have HR:=Lib.hid hr;have HZ2:=Lib.hid hz;have HC:=Lib.hid hch;clear hus hr hz hch ea hux hc1 hc2;rcases hr7 with h7|h7|h7|h7|h7|h7|h7
     · have HH7:=Lib.hid h7
       have hv:=Ug x;have hv0:=Vs x;generalize hy:Bo x 1=y at hv hv0;have HY:=Lib.hid hy;clear hy;go_wp2;go_roundg (32-(i+1))
       case measure=>omega
       refine⟨i+1,by omega,rfl,by go_num,?_,Ak HZ2.out (by simp) _,HC.out.setCell (p:=⟨w.heap.size,i,none⟩) (.inr (Nat.le_refl _)) _⟩;have:=Aa HR.out i (bv y);have e:Cb k d (i+1)=(Cb k d i).set i y:=by rw[HU.out,HH7.out,HY.out]
       rw[Br, ←e] at this;exact this
     · have HH7:=Lib.hid h7
       have hv:=US x;have hv0:=WI x;generalize hy:Bo x 2=y at hv hv0;have HY:=Lib.hid hy;clear hy;go_wp2;go_roundg (32-(i+1))
       case measure=>omega
       refine⟨i+1,by omega,rfl,by go_num,?_,Ak HZ2.out (by simp) _,HC.out.setCell (p:=⟨w.heap.size,i,none⟩) (.inr (Nat.le_refl _)) _⟩;have:=Aa HR.out i (bv y);have e:Cb k d (i+1)=(Cb k d i).set i y:=by rw[HU.out,HH7.out,HY.out]
       rw[Br, ←e] at this;exact this
     · have HH7:=Lib.hid h7
       have hv:=TX x;have hv0:=WB x;generalize hy:Bo x 3=y at hv hv0;have HY:=Lib.hid hy;clear hy;go_wp2;go_roundg (32-(i+1))
       case measure=>omega
       refine⟨i+1,by omega,rfl,by go_num,?_,Ak HZ2.out (by simp) _,HC.out.setCell (p:=⟨w.heap.size,i,none⟩) (.inr (Nat.le_refl _)) _⟩;have:=Aa HR.out i (bv y);have e:Cb k d (i+1)=(Cb k d i).set i y:=by rw[HU.out,HH7.out,HY.out]
       rw[Br, ←e] at this;exact this
     · have HH7:=Lib.hid h7
       have hv:=T7 x;have hv0:=Vx x;generalize hy:Bo x 4=y at hv hv0;have HY:=Lib.hid hy;clear hy;go_wp2;go_roundg (32-(i+1))
       case measure=>omega
       refine⟨i+1,by omega,rfl,by go_num,?_,Ak HZ2.out (by simp) _,HC.out.setCell (p:=⟨w.heap.size,i,none⟩) (.inr (Nat.le_refl _)) _⟩;have:=Aa HR.out i (bv y);have e:Cb k d (i+1)=(Cb k d i).set i y:=by rw[HU.out,HH7.out,HY.out]
       rw[Br, ←e] at this;exact this
     · have HH7:=Lib.hid h7
       have hv:=TZ x;have hv0:=Vy x;generalize hy:Bo x 5=y at hv hv0;have HY:=Lib.hid hy;clear hy;go_wp2;go_roundg (32-(i+1))
       case measure=>omega
       refine⟨i+1,by omega,rfl,by go_num,?_,Ak HZ2.out (by simp) _,HC.out.setCell (p:=⟨w.heap.size,i,none⟩) (.inr (Nat.le_refl _)) _⟩;have:=Aa HR.out i (bv y);have e:Cb k d (i+1)=(Cb k d i).set i y:=by rw[HU.out,HH7.out,HY.out]
       rw[Br, ←e] at this;exact this
     · have HH7:=Lib.hid h7
       have hv:=Tb x;have hv0:=U8 x;generalize hy:Bo x 6=y at hv hv0;have HY:=Lib.hid hy;clear hy;go_wp2;go_roundg (32-(i+1))
       case measure=>omega
       refine⟨i+1,by omega,rfl,by go_num,?_,Ak HZ2.out (by simp) _,HC.out.setCell (p:=⟨w.heap.size,i,none⟩) (.inr (Nat.le_refl _)) _⟩;have:=Aa HR.out i (bv y);have e:Cb k d (i+1)=(Cb k d i).set i y:=by rw[HU.out,HH7.out,HY.out]
       rw[Br, ←e] at this;exact this
     have HH7:=Lib.hid h7;have hv:=Su x;have hv0:=VU x;generalize hy:Bo x 7=y at hv hv0;have HY:=Lib.hid hy;clear hy;go_wp2;go_roundg (32-(i+1))
     case measure=>omega
     refine⟨i+1,by omega,rfl,by go_num,?_,Ak HZ2.out (by simp) _,HC.out.setCell (p:=⟨w.heap.size,i,none⟩) (.inr (Nat.le_refl _)) _⟩;have:=Aa HR.out i (bv y);have e:Cb k d (i+1)=(Cb k d i).set i y:=by rw[HU.out,HH7.out,HY.out]
     rw[Br, ←e] at this;exact this
   have hk0:Bo x (d-8*i)=x:=by unfold Bo;rw[if_neg hc1,if_neg hc2]
   have hse:(Cb k d i).set i x=Cb k d i:=by
    obtain⟨hlt,he⟩:=List.getElem?_eq_some_iff.1 hux;rw[←he,List.set_getElem_self]
   rw[hk0,hse] at hus;have HU:=Lib.hid hus;have HR:=Lib.hid hr;have HZ2:=Lib.hid hz;have HC:=Lib.hid hch;have hc3:0<d-8*(i:Int):=by omega
   have hc4:8≤d-8*(i:Int):=by omega
   clear hus hr hz hch ea hux hk0 hse hc1 hc2;go_wp2;go_roundg (32-(i+1))
   case measure=>omega
   exact⟨i+1,by omega,rfl,by go_num,by rw[HU.out];exact HR.out,HZ2.out,HC.out⟩
 have h32:i=k.length:=by rw[HKL.out];omega
 have hd32:decide ((i:Int)<32)=false:=by rw[decide_eq_false_iff_not];have:=HKL.out;omega
 rw[h32,QC] at hr;obtain⟨O,hO⟩:∃O,O=AJ (last k d):=⟨_,rfl⟩
 have hos:O.size=32:=by rw[hO,AY,Dd,HKL.out]
 have ho1:=Aq (last k d);rw[←hO] at hr ho1;have HO:=(hIq hr (aIq hos ho1))
 have HO':=Lib.hid hO;have HZ2:=Lib.hid hz;have HC2:=Lib.hid hch;clear hr hos ho1 hO hz hch hil h32
 go_wp2_with (first
  | ((with_reducible show zOq (.load 24 _));refine AK rfl 24 _ rfl w.heap.size 0 rfl HO.out.1 Tryz.underlying24 rfl Au (by rw[HO.out.2.1];omega) O (by simp[←HO.out.2.1]) ?_)
  | ((with_reducible show zOq (.store 24 _ _));refine AE rfl 24 _ _ rfl (w.heap.size+1) 0 O rfl rfl HZ2.out (by rw[Au,HO.out.2.1]) (by rw[HO.out.2.1,HZ.out.2];omega) HO.out.2.2 O (by rw[AI _ _ (by rw[Array.length_toList,Array.length_toList,HO.out.2.1,HZ.out.2])]) ?_))
 exact Aw (p:=6) (u:=7) rfl rfl (AF HZ2.out _) Tryz.underlying24 rfl (by rw[Au,HO.out.2.1]) rfl ⟨by rw[HO'.out];rfl,HC2.out.setRow (.inr (by omega)) _⟩
theorem Vq (k:List UInt8) (hk:k.length=32) (d:Int) (hd:0≤d∧d≤256) (w:World) :
 Calls Tryz.prog 167 #[.agg (AJ k),.int .i64 d] w fun e w'=>e=.returned (.tuple #[.agg (AJ (last k d)),.int .i64 0])∧Ch (fun _=>False) w w':=by
 have hcall:=PN k hk d hd;obtain⟨Z,hZ⟩:∃Z,Z=AJ (List.replicate 32 0):=⟨_,rfl⟩
 have hzh:=Gf;rw[←hZ] at hzh;have hZs:Z.size=32:=by rw[hZ];rfl
 obtain⟨K,hK⟩:∃K,K=AJ k:=⟨_,rfl⟩
 have hKs:K.size=32:=by rw[hK,AY,hk]
 obtain⟨O,hO⟩:∃O,O=AJ (last k d):=⟨_,rfl⟩
 have hos:O.size=32:=by rw[hO,AY,Dd,hk]
 have ho1:=Aq (last k d);rw[←hK, ←hO] at hcall;rw[←hO] at ho1;rw[←hK];have HC:=Lib.hid hcall;have HZ:=(hIq hzh hZs)
 have HK:=Lib.hid hKs;have HO:=(hIq hO (aIq hos ho1))
 clear hcall hZ hzh hZs hK hKs hO hos ho1 hk hd;go_enter Tryz.func167,Tryz.ntmps167
 go_wp2_with (first
  | ((with_reducible show zOq (.alloc 24));refine AH rfl 24 rfl (.agg Z) HZ.out.1 ?_;dsimp only[Value.cells];try simp only[World.size_alloc])
  | ((with_reducible show zOq (.load 24 _));refine AK rfl 24 _ rfl w.heap.size 0 rfl (AM (heap_alloc_new _ _) _) Tryz.underlying24 rfl Au (by rw[HK.out];omega) K (by simp[←HK.out]) ?_))
 refine(HC.out _).mono ?_;rintro e w4 ⟨rfl,hc4⟩
 have hz4:=hc4.row (show((w.alloc (.cells K 24)).alloc (.cells Z 24)).heap[w.heap.size+1]?=some (.cells Z 24 (0,0)) by
  have:=heap_alloc_new (w.alloc (.cells K 24)) (.cells Z 24);simpa using this) id
 have hw4:=(((Ch.refl (fun _=>False) w).alloc (.cells K 24)).alloc (.cells Z 24)).trans hc4 (fun _=>fEq);have Z4:=Lib.hid hz4;have W4:=Lib.hid hw4;clear hc4 hz4 hw4
 go_wp2_with (first
  | ((with_reducible show zOq (.store 24 _ _));refine AE rfl 24 _ _ rfl (w.heap.size+1) 0 O rfl rfl Z4.out (by rw[Au,HO.out.2.1]) (by rw[HO.out.2.1,HZ.out.2];omega) HO.out.2.2 O (by rw[AI _ _ (by rw[Array.length_toList,Array.length_toList,HO.out.2.1,HZ.out.2])]) ?_))
 exact Aw (p:=4) (u:=5) rfl rfl (AF Z4.out _) Tryz.underlying24 rfl (by rw[Au,HO.out.2.1]) rfl ⟨by rw[HO.out.1];rfl,W4.out.setRow (.inr (by omega)) _⟩
end Go.Proofs.YtooijgcildbnlaaGreat.Path
namespace Go.Proofs.YtooijgcildbnlaaGreat.Store
open Go.RowKit Go.Proofs.YtooijgcildbnlaaGreat.ShaW Go.Proofs.YtooijgcildbnlaaGreat.Path
theorem cmp_lastFrom:∀(e k:List UInt8) (d i:Int),e.length=k.length→(∀j:Nat,(j:Int)<d-8*i→BE e j=BE k j)→¬Lib.compareBytes (DJ d i k) e<0
 | [],[],d,i,_,_=>by simp[DJ,Lib.compareBytes]
 | [],_::_,d,i,h,_=>by simp at h
 | _::_,[],d,i,h,_=>by simp at h
 | y::e,x::k,d,i,h,hp=>by
  have ih:=cmp_lastFrom e k d (i+1) (by simpa using h) (fun j hj=>by
   have:=hp (j+8) (by omega)
   rwa [IT,IT] at this)
  have hb:∀j:Nat,j<8→(j:Int)<d-8*i→CP y j=CP x j:=fun j hj hd=>by
   have:=hp j hd
   rwa [FD y e hj,FD x k hj] at this
  have hle:y.toNat≤(Bo x (d-8*i)).toNat:=by
   unfold Bo;split
   · have:=y.toNat_lt;show _≤255;omega
   rename_i h0;split
   · rename_i h8
     obtain⟨c,hc⟩:∃c:Nat,d-8*i=(c:Int):=⟨(d-8*i).toNat,by omega⟩
     rw[hc];have hc8:c<8:=by omega
     have hc0:0<c:=by omega
     have he:=Jn y x c (by omega) (fun j hj=>hb j (by omega) (by omega));have hlt:=EN ⟨x.toNat,x.toNat_lt⟩ ⟨c-1,by omega⟩;simp only[show c-1+1=c by omega] at hlt;rw[Int.toNat_natCast,UInt8.toNat_ofNat',Nat.mod_eq_of_lt hlt, ←he];have h1:=Nat.div_add_mod y.toNat (2 ^ (8-c));have h2:=Nat.mod_lt y.toNat (Nat.two_pow_pos (8-c));rw[Nat.mul_comm] at h1;omega
   rename_i h8;have:y=x:=Qd y x (fun j hj=>hb j hj (by omega));rw[this];exact Nat.le_refl _
  unfold DJ Lib.compareBytes;have h1:¬Bo x (d-8*i)<y:=fun h=>by rw[NZ] at h;omega
  rw[if_neg h1];split
  · omega
  exact ih
theorem U5 {e k:List UInt8} {d:Nat} (h:e.length=k.length) (hp:Pre e k d):¬Lib.compareBytes (last k d) e<0 :=
 cmp_lastFrom e k d 0 h (fun j hj=>hp j (by omega))
def Tr.Ai:Tr→Bi
 | .nil => []
 | .leaf k v => [(k,v)]
 | .node l r=>l.Ai++r.Ai
theorem Tr.Ca:∀t:Tr,t.Ai.length=t.leaves
 | .nil=>rfl
 | .leaf _ _=>rfl
 | .node l r=>by
  show(l.Ai++r.Ai).length=l.leaves+r.leaves
  rw[List.length_append,l.Ca,r.Ca]
def Ltk (p q:List UInt8×List UInt8):Prop:=Lib.compareBytes p.1 q.1<0
theorem Rep.Ez {f:View} (hz:f 0=none) {d:Nat} {t:Tr} (hr:Rep f 0 d t):t=.nil:=by
 cases hr with
 | nil=>rfl
 | leaf hn _=>rw[hz] at hn;cases hn
 | node hn _ _ _ _=>rw[hz] at hn;cases hn
theorem Rep.Ai {f:View} (hf:Fit f) {h:Int} {d:Nat} {t:Tr} (hr:Rep f h d t) :
 (∀e∈t.Ai,e.1.length=32∧e.2.length≤1024)∧(∀n,f h=some n→∀e∈t.Ai,(n.kind=2→Pre e.1 n.key d)∧(n.kind≠2→e.1=n.key))∧t.Ai.Pairwise Ltk:=by
 induction hr with
 | nil=>exact⟨fun e he=>(by cases he),fun n hn=>(by rw[hf.zero] at hn;cases hn),List.Pairwise.nil⟩
 | @leaf h d n hn hk =>
  obtain⟨_,ho⟩:=hf.leaf hn (by omega);refine⟨fun e he=>?_,fun m hm e he=>?_,List.pairwise_singleton _ _⟩
  · obtain rfl:=List.mem_singleton.1 he
    exact⟨ho.key,ho.value⟩
  obtain rfl:=List.mem_singleton.1 he;rw[hn] at hm;cases hm;exact⟨fun h2=>absurd h2 (by omega),fun _=>rfl⟩
 | @node h d n l r hn hk hd hl hr ihl ihr =>
  obtain⟨al,bl,cl⟩:=ihl;obtain⟨ar,br,cr⟩:=ihr;obtain⟨p1,p2⟩:=hf.pre hn hk hd (k:=n.key) (fun _ _=>rfl);obtain⟨q1,q2⟩:=hf.kids hn hk;have hd1:=(hf.inner hn hk).d1;have hlt:d<256:=by omega
  have left:∀e∈l.Ai,Pre e.1 n.key d∧BE e.1 d=0:=fun e he=>by
   rcases hl.live with h0|⟨y,hy⟩
   · rw[h0] at hl;rw[hl.Ez hf.zero] at he;cases he
   have hb:BE y.key d=0:=MG hlt (by have:=(q1 y hy).2;rw[hd] at this;exact this);by_cases h2:y.kind=2
   · have hp:=(bl y hy e he).1 h2
     exact⟨(hp.less (Nat.le_succ d)).trans (p1 y hy),(hp d (Nat.lt_succ_self d)).trans hb⟩
   rw[(bl y hy e he).2 h2];exact⟨p1 y hy,hb⟩
  have right:∀e∈r.Ai,Pre e.1 n.key d∧BE e.1 d=1:=fun e he=>by
   rcases hr.live with h0|⟨y,hy⟩
   · rw[h0] at hr;rw[hr.Ez hf.zero] at he;cases he
   have hb:BE y.key d=1:=MG hlt (by have:=(q2 y hy).2;rw[hd] at this;exact this);by_cases h2:y.kind=2
   · have hp:=(br y hy e he).1 h2
     exact⟨(hp.less (Nat.le_succ d)).trans (p2 y hy),(hp d (Nat.lt_succ_self d)).trans hb⟩
   rw[(br y hy e he).2 h2];exact⟨p2 y hy,hb⟩
  refine⟨fun e he=>(List.mem_append.1 he).elim (al e) (ar e),fun m hm e he=>?_,List.pairwise_append.2 ⟨cl,cr,fun a ha b hb=>?_⟩⟩
  · rw[hn] at hm
    cases hm;exact⟨fun _=>(List.mem_append.1 he).elim (fun h=>(left e h).1) (fun h=>(right e h).1),fun h2=>absurd hk h2⟩
  obtain⟨a1,a2⟩:=left a ha;obtain⟨b1,b2⟩:=right b hb;unfold Ltk;rw[Jv a.1 b.1 d (by rw[(al a ha).1,(ar b hb).1]) (by rw[(al a ha).1];omega) (a1.trans b1.symm) a2 b2]
  decide
theorem Rep.sides {f:View} (hf:Fit f) {h:Int} {d:Nat} {n:Nd} {l r:Tr} (hn:f h=some n) (hk:n.kind=2) (hd:n.depth=(d:Nat)) (hl:Rep f n.left (d+1) l) (hr:Rep f n.right (d+1) r) :
 (∀e∈l.Ai,Pre e.1 n.key d∧BE e.1 d=0)∧(∀e∈r.Ai,Pre e.1 n.key d∧BE e.1 d=1):=by
 obtain⟨_,bl,_⟩:=hl.Ai hf;obtain⟨_,br,_⟩:=hr.Ai hf;obtain⟨p1,p2⟩:=hf.pre hn hk hd (k:=n.key) (fun _ _=>rfl);obtain⟨q1,q2⟩:=hf.kids hn hk;have hd1:=(hf.inner hn hk).d1;have hlt:d<256:=by omega
 refine⟨fun e he=>?_,fun e he=>?_⟩
 · rcases hl.live with h0|⟨y,hy⟩
   · rw[h0] at hl;rw[hl.Ez hf.zero] at he;cases he
   have hb:BE y.key d=0:=MG hlt (by have:=(q1 y hy).2;rw[hd] at this;exact this);by_cases h2:y.kind=2
   · have hp:=(bl y hy e he).1 h2
     exact⟨(hp.less (Nat.le_succ d)).trans (p1 y hy),(hp d (Nat.lt_succ_self d)).trans hb⟩
   rw[(bl y hy e he).2 h2];exact⟨p1 y hy,hb⟩
 rcases hr.live with h0|⟨y,hy⟩
 · rw[h0] at hr;rw[hr.Ez hf.zero] at he;cases he
 have hb:BE y.key d=1:=MG hlt (by have:=(q2 y hy).2;rw[hd] at this;exact this);by_cases h2:y.kind=2
 · have hp:=(br y hy e he).1 h2
   exact⟨(hp.less (Nat.le_succ d)).trans (p2 y hy),(hp d (Nat.lt_succ_self d)).trans hb⟩
 rw[(br y hy e he).2 h2];exact⟨p2 y hy,hb⟩
theorem Rep.slot {f:View} {h:Int} {d:Nat} {t:Tr} (hr:Rep f h d t):∀e∈t.Ai,∃k n,f k=some n∧n.key=e.1:=by
 induction hr with
 | nil=>exact fun e he=>by cases he
 | leaf hn hk =>
  intro e he;obtain rfl:=List.mem_singleton.1 he;exact⟨_,_,hn,rfl⟩
 | node _ _ _ _ _ ihl ihr=>exact fun e he=>(List.mem_append.1 he).elim (ihl e) (ihr e)
theorem Gu {σ:AD Nd} (G:Good σ) {h:Int} {d:Nat} {t:Tr} (hr:Rep (sk σ) h d t):t.Ai.length≤σ.slots.length:=by
 have hs:=hr.slot;have hp:=(hr.Ai G.fit).2.2
 have hch:∃g:List UInt8×List UInt8→Int,∀e∈t.Ai,∃n,sk σ (g e)=some n∧n.key=e.1:=by
  refine⟨fun e=>if he:e∈t.Ai then Classical.choose (hs e he) else 0,fun e he=>?_⟩;simp only[dif_pos he];exact Classical.choose_spec (hs e he)
 obtain⟨g,hg⟩:=hch
 have hnd:(t.Ai.map (fun e=>(g e).toNat)).Nodup:=by
  rw[List.Nodup,List.pairwise_map];refine hp.imp_of_mem ?_;intro a b ha hb hlt e;obtain⟨n,hn,hnk⟩:=hg a ha;obtain⟨m,hm,hmk⟩:=hg b hb;obtain⟨x,hx,_⟩:=Gc hn;obtain⟨y,hy,_⟩:=Gc hm;obtain⟨i,hi,_⟩:=AD.Ag hx;obtain⟨j,hj,_⟩:=AD.Ag hy;have:g a=g b:=by omega
  rw[this,hm] at hn;cases hn;unfold Ltk at hlt;rw[←hnk, ←hmk,Fg] at hlt;omega
 have hsub:∀x∈t.Ai.map (fun e=>(g e).toNat),x∈List.range' 1 σ.slots.length:=fun x hx=>by
  obtain⟨e,he,rfl⟩:=List.mem_map.1 hx;obtain⟨n,hn,_⟩:=hg e he;obtain⟨y,hy,_⟩:=Gc hn;obtain⟨i,hi,_,_,hlt⟩:=AD.Ag hy;simp only[List.mem_range'_1];omega
 have:=CL _ _ hnd hsub;simpa using this
def geK (key:List UInt8) (e:List UInt8×List UInt8):Bool := !decide (Lib.compareBytes e.1 key<0)
def ltK (key:List UInt8) (e:List UInt8×List UInt8):Bool:=decide (Lib.compareBytes e.1 key<0)
def Tr.from (t:Tr) (key:List UInt8):Bi:=t.Ai.filter (geK key)
def Tr.EP (t:Tr) (key:List UInt8):Nat:=(t.Ai.filter (ltK key)).length
theorem Tr.Rl (l r:Tr) (key:List UInt8):(Tr.node l r).from key=l.from key++r.from key:=List.filter_append _ _
theorem R7 {t:Tr} {key:List UInt8} (h:∀e∈t.Ai,Lib.compareBytes e.1 key<0):t.from key = [] :=
 List.filter_eq_nil_iff.2 (fun e he=>by unfold geK;simp[h e he])
theorem SB (t:Tr) (key:List UInt8):t.EP key+(t.from key).length=t.leaves:=by
 unfold Tr.EP Tr.from;rw[←Tr.Ca]
 induction t.Ai with
 | nil=>rfl
 | cons e l ih =>
  rw[List.filter_cons,List.filter_cons];by_cases h:Lib.compareBytes e.1 key<0
  · simp[geK,ltK,h] at ih ⊢;omega
  simp[geK,ltK,h] at ih ⊢;omega
def LX:List UInt8→List UInt8×Bool
 | []=>([],false)
 | x::l=>if (LX l).2=true then (x::(LX l).1,true) else if x=255 then (0::(LX l).1,false) else ((x+1)::(LX l).1,true)
theorem Ld:∀(e:List UInt8),¬Lib.compareBytes e (List.replicate e.length 0)<0
 | []=>by simp[Lib.compareBytes]
 | y::e=>by
  rw[List.length_cons,List.replicate_succ];unfold Lib.compareBytes;have h1:¬y<0:=fun h=>by rw[NZ] at h;simp at h
  rw[if_neg h1];split
  · omega
  exact Ld e
end Go.Proofs.YtooijgcildbnlaaGreat.Store
namespace Go.Proofs.YtooijgcildbnlaaGreat
open Go.RowKit
def Bz (l:List (Array Value)):List Value:=l.flatMap Array.toList
section
variable {n : Nat} {l : List (Array Value)} {i j : Nat} {a b : Array Value}
theorem Ef (l m:List (Array Value)):Bz (l++m)=Bz l++Bz m:=by simp[Bz]
theorem I0 (a:Array Value):Bz [a]=a.toList:=by simp[Bz]
theorem II:∀(l:List (Array Value)),(∀a∈l,a.size=n)→(Bz l).length=l.length*n
 | [],_=>by simp[Bz]
 | a::l,h=>by
  have ih:=II l (fun x hx=>h x (List.mem_cons_of_mem _ hx));have h0:=h a (List.mem_cons_self ..);rw[show a::l = [a]++l from rfl,Ef,I0,List.length_append,ih,Array.length_toList,h0,List.length_append,List.length_singleton,Nat.add_mul];omega
theorem Cs (h:∀a∈l,a.size=n) (hi:i≤l.length):(Bz (l.take i)).length=i*n:=by
 rw[II (n:=n) _ (fun s hs=>h s (List.mem_of_mem_take hs)),List.length_take,Nat.min_eq_left hi]
theorem DX (hi:l[i]?=some a):Bz l=Bz (l.take i)++(a.toList++Bz (l.drop (i+1))):=by
 obtain⟨hlt,he⟩:=List.getElem?_eq_some_iff.1 hi
 conv=>lhs;rw[←List.take_append_drop i l,List.drop_eq_getElem_cons hlt,he]
 rw[Ef,show a::l.drop (i+1) = [a]++l.drop (i+1) from rfl,Ef,I0]
theorem Sz (h:∀a∈l,a.size=n) (hi:l[i]?=some a) (hj:j<n):(Bz l)[i*n+j]?=a[j]?:=by
 have hlt:=(List.getElem?_eq_some_iff.1 hi).1;have ha:=h a (List.mem_of_getElem? hi);have ht:=Cs h (i:=i) (by omega);rw[DX hi,List.getElem?_append_right (by omega),ht,show i*n+j-i*n=j by omega,List.getElem?_append_left (by rw[Array.length_toList];omega),Array.getElem?_toList]
theorem Pa (h:∀a∈l,a.size=n) (hi:l[i]?=some a):((Bz l).drop (i*n)).take n=a.toList:=by
 have hlt:=(List.getElem?_eq_some_iff.1 hi).1;have ha:=h a (List.mem_of_getElem? hi);have ht:=Cs h (i:=i) (by omega);rw[DX hi,List.drop_append_of_le_length (by omega),List.drop_eq_nil_of_le (by omega),List.nil_append,List.take_append_of_le_length (by rw[Array.length_toList];omega),List.take_of_length_le (by rw[Array.length_toList];omega)]
theorem SA (h:∀a∈l,a.size=n) (hi:l[i]?=some a) (hj:j<n) (v:Value):(Bz l).set (i*n+j) v=Bz (l.set i (a.setIfInBounds j v)):=by
 have hlt:=(List.getElem?_eq_some_iff.1 hi).1;have ha:=h a (List.mem_of_getElem? hi);have ht:=Cs h (i:=i) (by omega)
 rw[DX (l:=l.set i (a.setIfInBounds j v)) (i:=i) (a:=a.setIfInBounds j v) (by rw[List.getElem?_set_self hlt]),DX hi,List.set_append_right _ _ (by omega),ht,show i*n+j-i*n=j by omega,
  List.set_append_left _ _ (by rw[Array.length_toList];omega),Array.toList_setIfInBounds,List.take_set_of_le (Nat.le_refl _),List.drop_set_of_lt (Nat.lt_succ_self _)]
theorem Ib (h:∀a∈l,a.size=n) (hi:i<l.length) (hb:b.size=n):splice (Bz l) (i*n) b.toList=Bz (l.set i b):=by
 have ha:l[i]?=some l[i]:=by simp[hi]
 have hs:=h l[i] (List.getElem_mem hi);have ht:=Cs h (i:=i) (by omega);rw[DX (l:=l.set i b) (i:=i) (a:=b) (by rw[List.getElem?_set_self hi]),DX ha,splice]
 have e1:List.take (i*n) (Bz (List.take i l)++(l[i].toList++Bz (List.drop (i+1) l)))=Bz (List.take i l):=by
  rw[List.take_append_of_le_length (by omega),List.take_of_length_le (by omega)]
 have e2:List.drop (i*n+b.toList.length) (Bz (List.take i l)++(l[i].toList++Bz (List.drop (i+1) l)))=Bz (List.drop (i+1) l):=by
  rw[List.drop_append,List.drop_eq_nil_of_le (by rw[ht];omega),List.nil_append,ht,Array.length_toList,hb,show i*n+n-i*n=n by omega,List.drop_append,List.drop_eq_nil_of_le (by rw[Array.length_toList];omega),List.nil_append,Array.length_toList,hs,Nat.sub_self,List.drop_zero]
 rw[e1,e2,List.take_set_of_le (Nat.le_refl _),List.drop_set_of_lt (Nat.lt_succ_self _),List.append_assoc]
end
end Go.Proofs.YtooijgcildbnlaaGreat

/- Laws of the layers below. -/
import Derived.Test.YtngbdbpofifimaaGreatQm18
set_option maxHeartbeats 3200000
set_option maxRecDepth 100000
set_option linter.unusedVariables false
namespace Go.Proofs.YtngbdbpofifimaaGreat.Store
open Go.RowKit Go.Proofs.YtngbdbpofifimaaGreat.ShaW Go.Proofs.YtngbdbpofifimaaGreat.Path
section
variable {σ σ2 : AG Nd} {root : Int} {L : Av} {key bs : List UInt8} {s : Nat}
theorem Ux (D:Db σ root L) (h0:root≠0) (ht:total σ<1073741824) :
 (Au σ root).1=0∧Db (Au σ root).2 root L∧(∀k,sk (Au σ root).2 k=sk σ k)∧(∀k,held (Au σ root).2 k=if k=root then held σ root+1 else held σ k) ∧
  live (Au σ root).2=live σ∧total (Au σ root).2=total σ+1∧(Au σ root).2.room=σ.room:=by
 have hh:1≤held σ root:=by
  rcases D.held with h|h
  · exact absurd h h0
  exact h
 obtain⟨x,hx,_⟩:=Bd hh;obtain⟨h1,h2,h3,h4,h5,h6⟩:=Jl D.good.sound hx (by have:=count_le hx;omega);refine⟨h1,⟨D.good.hold root,?_,D.nodup,D.len,.inr (by rw[h3,if_pos rfl];omega)⟩,h2,h3,h4,h5,h6⟩;rw[show sk (Au σ root).2=sk σ from funext h2];exact D.rep
end
end Go.Proofs.YtngbdbpofifimaaGreat.Store
namespace Go.Proofs.YtngbdbpofifimaaGreat.Path
open Go.RowKit
def Bi (x:UInt8) (Ae:Int):UInt8:=if Ae≤0 then 255 else if Ae<8 then UInt8.ofNat (x.toNat / 2 ^ (8-Ae.toNat)*2 ^ (8-Ae.toNat)+(2 ^ (8-Ae.toNat)-1)) else x
def DA (d:Int):Int→List UInt8→List UInt8
 | _,[] => []
 | i,x::l=>Bi x (d-8*i)::DA d (i+1) l
def last (k:List UInt8) (d:Int):List UInt8:=DA d 0 k
theorem Fk (d:Int):∀(i:Int) (l:List UInt8),(DA d i l).length=l.length
 | _,[]=>rfl
 | i,x::l=>by simp[DA,Fk d (i+1) l]
theorem DP (k:List UInt8) (d:Int):(last k d).length=k.length:=Fk d 0 k
theorem IT (d:Int):∀(i:Int) (l:List UInt8) (n:Nat) (x:UInt8),l[n]?=some x→(DA d i l)[n]?=some (Bi x (d-8*(i+n)))
 | _,[],_,_,h=>by simp at h
 | i,y::l,0,x,h=>by
  simp at h;subst h;simp[DA]
 | i,y::l,n+1,x,h=>by
  have:=IT d (i+1) l n x (by simpa using h);rw[DA,List.getElem?_cons_succ,this]
  congr 2
  omega
def CZ (k:List UInt8) (d:Int) (i:Nat):List UInt8:=(last k d).take i++k.drop i
theorem QX (k:List UInt8) (d:Int) (i:Nat) (x:UInt8) (h:k[i]?=some x):(CZ k d i)[i]?=some x:=by
 have hi:=(List.getElem?_eq_some_iff.1 h).1;have hl:((last k d).take i).length=i:=by simp[DP];omega
 rw[CZ,List.getElem?_append_right (by omega),hl,Nat.sub_self,List.getElem?_drop];exact h
theorem OO (k:List UInt8) (d:Int) (i:Nat) (x:UInt8) (h:k[i]?=some x):CZ k d (i+1)=(CZ k d i).set i (Bi x (d-8*i)):=by
 have hi:=(List.getElem?_eq_some_iff.1 h).1;have hl:((last k d).take i).length=i:=by simp[DP];omega
 have hf:=IT d 0 k i x h;unfold CZ;rw[List.set_append_right _ _ (by omega),hl,Nat.sub_self,List.take_add_one];rw[show(last k d)[i]?=some (Bi x (d-8*i)) by rw[last,hf];congr 2;omega];rw[List.drop_eq_getElem_cons hi,List.set_cons_zero,Option.toList_some,List.append_assoc,List.singleton_append]
theorem OH (k:List UInt8) (d:Int):CZ k d k.length=last k d:=by
 rw[CZ,List.take_of_length_le (by rw[DP];exact Nat.le_refl _),List.drop_length,List.append_nil]
theorem Dp:∀(x:Fin 256) (r:Fin 7),bits .or .u8 (bits .andNot .u8 (x.val:Int) ((255 / 2 ^ (r.val+1):Nat):Int)) (bits .and .u8 255 ((255 / 2 ^ (r.val+1):Nat):Int))=((x.val / 2 ^ (8-(r.val+1))*2 ^ (8-(r.val+1))+(2 ^ (8-(r.val+1))-1):Nat):Int):=by decide +kernel
theorem Dv:∀(x:Fin 256) (r:Fin 7),x.val / 2 ^ (8-(r.val+1))*2 ^ (8-(r.val+1))+(2 ^ (8-(r.val+1))-1)<256:=by decide +kernel
theorem TM (x:UInt8):bits .or .u8 (bits .andNot .u8 (x.toNat:Int) (127:Int)) (bits .and .u8 255 (127:Int))=((Bi x 1).toNat:Int):=by
 have h:=Dp ⟨x.toNat,x.toNat_lt⟩ ⟨0,by omega⟩;have hb:=Dv ⟨x.toNat,x.toNat_lt⟩ ⟨0,by omega⟩
 have e:(Bi x 1).toNat=x.toNat / 2 ^ (8-1)*2 ^ (8-1)+(2 ^ (8-1)-1):=by
  show(UInt8.ofNat (x.toNat / 2 ^ (8-1)*2 ^ (8-1)+(2 ^ (8-1)-1))).toNat=_
  rw[UInt8.toNat_ofNat'];exact Nat.mod_eq_of_lt hb
 rw[e];exact h
theorem Ur (x:UInt8):bits .or .u8 (bits .andNot .u8 (x.toNat:Int) (127:Int)) (127:Int)=((Bi x 1).toNat:Int):=by
 have e:bits .and .u8 255 (127:Int)=127:=by decide +kernel
 have h:=TM x;rw[e] at h;exact h
theorem SX (x:UInt8):bits .or .u8 (bits .andNot .u8 (x.toNat:Int) (63:Int)) (bits .and .u8 255 (63:Int))=((Bi x 2).toNat:Int):=by
 have h:=Dp ⟨x.toNat,x.toNat_lt⟩ ⟨1,by omega⟩;have hb:=Dv ⟨x.toNat,x.toNat_lt⟩ ⟨1,by omega⟩
 have e:(Bi x 2).toNat=x.toNat / 2 ^ (8-2)*2 ^ (8-2)+(2 ^ (8-2)-1):=by
  show(UInt8.ofNat (x.toNat / 2 ^ (8-2)*2 ^ (8-2)+(2 ^ (8-2)-1))).toNat=_
  rw[UInt8.toNat_ofNat'];exact Nat.mod_eq_of_lt hb
 rw[e];exact h
theorem T8 (x:UInt8):bits .or .u8 (bits .andNot .u8 (x.toNat:Int) (63:Int)) (63:Int)=((Bi x 2).toNat:Int):=by
 have e:bits .and .u8 255 (63:Int)=63:=by decide +kernel
 have h:=SX x;rw[e] at h;exact h
theorem TU (x:UInt8):bits .or .u8 (bits .andNot .u8 (x.toNat:Int) (31:Int)) (bits .and .u8 255 (31:Int))=((Bi x 3).toNat:Int):=by
 have h:=Dp ⟨x.toNat,x.toNat_lt⟩ ⟨2,by omega⟩;have hb:=Dv ⟨x.toNat,x.toNat_lt⟩ ⟨2,by omega⟩
 have e:(Bi x 3).toNat=x.toNat / 2 ^ (8-3)*2 ^ (8-3)+(2 ^ (8-3)-1):=by
  show(UInt8.ofNat (x.toNat / 2 ^ (8-3)*2 ^ (8-3)+(2 ^ (8-3)-1))).toNat=_
  rw[UInt8.toNat_ofNat'];exact Nat.mod_eq_of_lt hb
 rw[e];exact h
theorem UB (x:UInt8):bits .or .u8 (bits .andNot .u8 (x.toNat:Int) (31:Int)) (31:Int)=((Bi x 3).toNat:Int):=by
 have e:bits .and .u8 255 (31:Int)=31:=by decide +kernel
 have h:=TU x;rw[e] at h;exact h
theorem Rc (x:UInt8):bits .or .u8 (bits .andNot .u8 (x.toNat:Int) (15:Int)) (bits .and .u8 255 (15:Int))=((Bi x 4).toNat:Int):=by
 have h:=Dp ⟨x.toNat,x.toNat_lt⟩ ⟨3,by omega⟩;have hb:=Dv ⟨x.toNat,x.toNat_lt⟩ ⟨3,by omega⟩
 have e:(Bi x 4).toNat=x.toNat / 2 ^ (8-4)*2 ^ (8-4)+(2 ^ (8-4)-1):=by
  show(UInt8.ofNat (x.toNat / 2 ^ (8-4)*2 ^ (8-4)+(2 ^ (8-4)-1))).toNat=_
  rw[UInt8.toNat_ofNat'];exact Nat.mod_eq_of_lt hb
 rw[e];exact h
theorem UY (x:UInt8):bits .or .u8 (bits .andNot .u8 (x.toNat:Int) (15:Int)) (15:Int)=((Bi x 4).toNat:Int):=by
 have e:bits .and .u8 255 (15:Int)=15:=by decide +kernel
 have h:=Rc x;rw[e] at h;exact h
theorem SH (x:UInt8):bits .or .u8 (bits .andNot .u8 (x.toNat:Int) (7:Int)) (bits .and .u8 255 (7:Int))=((Bi x 5).toNat:Int):=by
 have h:=Dp ⟨x.toNat,x.toNat_lt⟩ ⟨4,by omega⟩;have hb:=Dv ⟨x.toNat,x.toNat_lt⟩ ⟨4,by omega⟩
 have e:(Bi x 5).toNat=x.toNat / 2 ^ (8-5)*2 ^ (8-5)+(2 ^ (8-5)-1):=by
  show(UInt8.ofNat (x.toNat / 2 ^ (8-5)*2 ^ (8-5)+(2 ^ (8-5)-1))).toNat=_
  rw[UInt8.toNat_ofNat'];exact Nat.mod_eq_of_lt hb
 rw[e];exact h
theorem UF (x:UInt8):bits .or .u8 (bits .andNot .u8 (x.toNat:Int) (7:Int)) (7:Int)=((Bi x 5).toNat:Int):=by
 have e:bits .and .u8 255 (7:Int)=7:=by decide +kernel
 have h:=SH x;rw[e] at h;exact h
theorem Re (x:UInt8):bits .or .u8 (bits .andNot .u8 (x.toNat:Int) (3:Int)) (bits .and .u8 255 (3:Int))=((Bi x 6).toNat:Int):=by
 have h:=Dp ⟨x.toNat,x.toNat_lt⟩ ⟨5,by omega⟩;have hb:=Dv ⟨x.toNat,x.toNat_lt⟩ ⟨5,by omega⟩
 have e:(Bi x 6).toNat=x.toNat / 2 ^ (8-6)*2 ^ (8-6)+(2 ^ (8-6)-1):=by
  show(UInt8.ofNat (x.toNat / 2 ^ (8-6)*2 ^ (8-6)+(2 ^ (8-6)-1))).toNat=_
  rw[UInt8.toNat_ofNat'];exact Nat.mod_eq_of_lt hb
 rw[e];exact h
theorem Ui (x:UInt8):bits .or .u8 (bits .andNot .u8 (x.toNat:Int) (3:Int)) (3:Int)=((Bi x 6).toNat:Int):=by
 have e:bits .and .u8 255 (3:Int)=3:=by decide +kernel
 have h:=Re x;rw[e] at h;exact h
theorem Tn (x:UInt8):bits .or .u8 (bits .andNot .u8 (x.toNat:Int) (1:Int)) (bits .and .u8 255 (1:Int))=((Bi x 7).toNat:Int):=by
 have h:=Dp ⟨x.toNat,x.toNat_lt⟩ ⟨6,by omega⟩;have hb:=Dv ⟨x.toNat,x.toNat_lt⟩ ⟨6,by omega⟩
 have e:(Bi x 7).toNat=x.toNat / 2 ^ (8-7)*2 ^ (8-7)+(2 ^ (8-7)-1):=by
  show(UInt8.ofNat (x.toNat / 2 ^ (8-7)*2 ^ (8-7)+(2 ^ (8-7)-1))).toNat=_
  rw[UInt8.toNat_ofNat'];exact Nat.mod_eq_of_lt hb
 rw[e];exact h
theorem Ug (x:UInt8):bits .or .u8 (bits .andNot .u8 (x.toNat:Int) (1:Int)) (1:Int)=((Bi x 7).toNat:Int):=by
 have e:bits .and .u8 255 (1:Int)=1:=by decide +kernel
 have h:=Tn x;rw[e] at h;exact h
theorem O5 (k:List UInt8) (hk:k.length=32) (d:Int) (hd:0≤d∧d≤256) (w:World) :
 Calls Tryz.prog 234 #[.agg (AS k),.int .i64 d,.int .u8 255] w fun e w'=>e=.returned (.tuple #[.agg (AS (last k d)),.int .i64 0])∧Ch (fun _=>False) w w':=by
 obtain⟨Z,hZ⟩:∃Z,Z=AS (List.replicate 32 0):=⟨_,rfl⟩
 have hzh:=Ft;rw[←hZ] at hzh;have hZs:Z.size=32:=by rw[hZ];rfl
 obtain⟨K,hK⟩:∃K,K=AS k:=⟨_,rfl⟩
 rw[←hK];have h0:=hd.1;have h1:=hd.2;have HZ:=(hIq hzh hZs)
 have HK:=Lib.hid hK;have HKL:=Lib.hid hk;clear hZ hzh hZs hK hk hd;go_enter Tryz.func234,Tryz.ntmps234;go_wp2_with (first|((with_reducible show zOq (.alloc 47));refine AO rfl 47 rfl (.agg Z) HZ.out.1 ?_;dsimp only[Value.cells];try simp only[World.size_alloc]));go_loopg [18] 32 (fun g s18 wr=>∃i:Nat,i≤32∧g=32-i∧s18=.int .i64 i∧wr.heap[w.heap.size]?=some (.cells (AS (CZ k d i)) 47 (0,0))∧wr.heap[w.heap.size+1]?=some (.cells Z 47 (0,0))∧Ch (fun _=>False) w wr)
 case atStart =>
  refine⟨0,Nat.zero_le _,rfl,rfl,?_,?_,((Ch.refl _ _).alloc _).alloc _⟩
  · rw[show CZ k d 0=k by simp[CZ], ←HK.out]
    exact AQ (heap_alloc_new _ _) _
  have:=heap_alloc_new (w.alloc (.cells K 47)) (.cells Z 47);simpa using this
 obtain⟨i,hi,rfl,rfl,hr,hz,hch⟩:=hrel;by_cases hil:i<32
 · have ea:k[i]?=some (k.getD i 0):=by simp[show i<k.length by rw[HKL.out];exact hil]
   generalize k.getD i 0=x at ea;have hux:=QX k d i x ea;have hus:=OO k d i x ea;have c1:=AH hr (EV hux);have f1:=Ai hr i;have l1:=Ad hr;have hi1:(i:Int)<32:=by omega
   have hi2:(i:Int)≤31:=by omega
   have hi3:i≤31:=by omega
   have wr8:IntKind.i64.wrap (8*(i:Int))=8*(i:Int):=IntWalk.i64_in _ (by omega);by_cases hc1:d-8*(i:Int)≤0
   · have hk0:Bi x (d-8*i)=255:=by unfold Bi;rw[if_pos hc1]
     rw[hk0] at hus;have HU:=Lib.hid hus;have HR:=Lib.hid hr;have HZ2:=Lib.hid hz;have HC:=Lib.hid hch;clear hus hr hz hch ea hux hk0;go_wp2;go_roundg (32-(i+1))
     case measure=>omega
     refine⟨i+1,by omega,rfl,by go_num,?_,Ak HZ2.out (by simp) _,HC.out.setCell (p:=⟨w.heap.size,i,none⟩) (.inr (Nat.le_refl _)) _⟩;have:=AV HR.out i (bv 255);rw[Bv, ←HU.out] at this;exact this
   by_cases hc2:d-8*(i:Int)<8
   · have hr7:d-8*(i:Int)=1∨d-8*(i:Int)=2∨d-8*(i:Int)=3∨d-8*(i:Int)=4∨d-8*(i:Int)=5∨d-8*(i:Int)=6∨d-8*(i:Int)=7:=by omega
     have HU:=Lib.hid hus;have HR:=Lib.hid hr;have HZ2:=Lib.hid hz;have HC:=Lib.hid hch;clear hus hr hz hch ea hux hc1 hc2;rcases hr7 with h7|h7|h7|h7|h7|h7|h7
     · have HH7:=Lib.hid h7
       have hv:=TM x;have hv0:=Ur x;generalize hy:Bi x 1=y at hv hv0;have HY:=Lib.hid hy;clear hy;go_wp2;go_roundg (32-(i+1))
       case measure=>omega
       refine⟨i+1,by omega,rfl,by go_num,?_,Ak HZ2.out (by simp) _,HC.out.setCell (p:=⟨w.heap.size,i,none⟩) (.inr (Nat.le_refl _)) _⟩;have:=AV HR.out i (bv y);have e:CZ k d (i+1)=(CZ k d i).set i y:=by rw[HU.out,HH7.out,HY.out]
       rw[Bv, ←e] at this;exact this
     · have HH7:=Lib.hid h7
       have hv:=SX x;have hv0:=T8 x;generalize hy:Bi x 2=y at hv hv0;have HY:=Lib.hid hy;clear hy;go_wp2;go_roundg (32-(i+1))
       case measure=>omega
       refine⟨i+1,by omega,rfl,by go_num,?_,Ak HZ2.out (by simp) _,HC.out.setCell (p:=⟨w.heap.size,i,none⟩) (.inr (Nat.le_refl _)) _⟩;have:=AV HR.out i (bv y);have e:CZ k d (i+1)=(CZ k d i).set i y:=by rw[HU.out,HH7.out,HY.out]
       rw[Bv, ←e] at this;exact this
     · have HH7:=Lib.hid h7
       have hv:=TU x;have hv0:=UB x;generalize hy:Bi x 3=y at hv hv0;have HY:=Lib.hid hy;clear hy;go_wp2;go_roundg (32-(i+1))
       case measure=>omega
       refine⟨i+1,by omega,rfl,by go_num,?_,Ak HZ2.out (by simp) _,HC.out.setCell (p:=⟨w.heap.size,i,none⟩) (.inr (Nat.le_refl _)) _⟩;have:=AV HR.out i (bv y);have e:CZ k d (i+1)=(CZ k d i).set i y:=by rw[HU.out,HH7.out,HY.out]
       rw[Bv, ←e] at this;exact this
     · have HH7:=Lib.hid h7
       have hv:=Rc x;have hv0:=UY x;generalize hy:Bi x 4=y at hv hv0;have HY:=Lib.hid hy;clear hy;go_wp2;go_roundg (32-(i+1))
       case measure=>omega
       refine⟨i+1,by omega,rfl,by go_num,?_,Ak HZ2.out (by simp) _,HC.out.setCell (p:=⟨w.heap.size,i,none⟩) (.inr (Nat.le_refl _)) _⟩;have:=AV HR.out i (bv y);have e:CZ k d (i+1)=(CZ k d i).set i y:=by rw[HU.out,HH7.out,HY.out]
       rw[Bv, ←e] at this;exact this
     · have HH7:=Lib.hid h7
       have hv:=SH x;have hv0:=UF x;generalize hy:Bi x 5=y at hv hv0;have HY:=Lib.hid hy;clear hy;go_wp2;go_roundg (32-(i+1))
       case measure=>omega
       refine⟨i+1,by omega,rfl,by go_num,?_,Ak HZ2.out (by simp) _,HC.out.setCell (p:=⟨w.heap.size,i,none⟩) (.inr (Nat.le_refl _)) _⟩;have:=AV HR.out i (bv y);have e:CZ k d (i+1)=(CZ k d i).set i y:=by rw[HU.out,HH7.out,HY.out]
       rw[Bv, ←e] at this;exact this
     · have HH7:=Lib.hid h7
       have hv:=Re x;have hv0:=Ui x;generalize hy:Bi x 6=y at hv hv0;have HY:=Lib.hid hy;clear hy;go_wp2;go_roundg (32-(i+1))
       case measure=>omega
       refine⟨i+1,by omega,rfl,by go_num,?_,Ak HZ2.out (by simp) _,HC.out.setCell (p:=⟨w.heap.size,i,none⟩) (.inr (Nat.le_refl _)) _⟩;have:=AV HR.out i (bv y);have e:CZ k d (i+1)=(CZ k d i).set i y:=by rw[HU.out,HH7.out,HY.out]
       rw[Bv, ←e] at this;exact this
     have HH7:=Lib.hid h7;have hv:=Tn x;have hv0:=Ug x;generalize hy:Bi x 7=y at hv hv0;have HY:=Lib.hid hy;clear hy;go_wp2;go_roundg (32-(i+1))
     case measure=>omega
     refine⟨i+1,by omega,rfl,by go_num,?_,Ak HZ2.out (by simp) _,HC.out.setCell (p:=⟨w.heap.size,i,none⟩) (.inr (Nat.le_refl _)) _⟩;have:=AV HR.out i (bv y);have e:CZ k d (i+1)=(CZ k d i).set i y:=by rw[HU.out,HH7.out,HY.out]
     rw[Bv, ←e] at this;exact this
   have hk0:Bi x (d-8*i)=x:=by unfold Bi;rw[if_neg hc1,if_neg hc2]
   have hse:(CZ k d i).set i x=CZ k d i:=by
    obtain⟨hlt,he⟩:=List.getElem?_eq_some_iff.1 hux;rw[←he,List.set_getElem_self]
   rw[hk0,hse] at hus;have HU:=Lib.hid hus;have HR:=Lib.hid hr;have HZ2:=Lib.hid hz;have HC:=Lib.hid hch;have hc3:0<d-8*(i:Int):=by omega
   have hc4:8≤d-8*(i:Int):=by omega
   clear hus hr hz hch ea hux hk0 hse hc1 hc2;go_wp2;go_roundg (32-(i+1))
   case measure=>omega
   exact⟨i+1,by omega,rfl,by go_num,by rw[HU.out];exact HR.out,HZ2.out,HC.out⟩
 have h32:i=k.length:=by rw[HKL.out];omega
 have hd32:decide ((i:Int)<32)=false:=by rw[decide_eq_false_iff_not];have:=HKL.out;omega
 rw[h32,OH] at hr;obtain⟨O,hO⟩:∃O,O=AS (last k d):=⟨_,rfl⟩
 have hos:O.size=32:=by rw[hO,AU,DP,HKL.out]
 have ho1:=BO (last k d);rw[←hO] at hr ho1;have HO:=(hIq hr (aIq hos ho1))
 have HO':=Lib.hid hO;have HZ2:=Lib.hid hz;have HC2:=Lib.hid hch;clear hr hos ho1 hO hz hch hil h32
 go_wp2_with (first
  | ((with_reducible show zOq (.load 47 _));refine AJ rfl 47 _ rfl w.heap.size 0 rfl HO.out.1 Tryz.underlying47 rfl Ab (by rw[HO.out.2.1];omega) O (by simp[←HO.out.2.1]) ?_)
  | ((with_reducible show zOq (.store 47 _ _));refine AI rfl 47 _ _ rfl (w.heap.size+1) 0 O rfl rfl HZ2.out (by rw[Ab,HO.out.2.1]) (by rw[HO.out.2.1,HZ.out.2];omega) HO.out.2.2 O (by rw[AT _ _ (by rw[Array.length_toList,Array.length_toList,HO.out.2.1,HZ.out.2])]) ?_))
 exact Al (p:=6) (u:=7) rfl rfl (AK HZ2.out _) Tryz.underlying47 rfl (by rw[Ab,HO.out.2.1]) rfl ⟨by rw[HO'.out];rfl,HC2.out.setRow (.inr (by omega)) _⟩
theorem UR (k:List UInt8) (hk:k.length=32) (d:Int) (hd:0≤d∧d≤256) (w:World) :
 Calls Tryz.prog 172 #[.agg (AS k),.int .i64 d] w fun e w'=>e=.returned (.tuple #[.agg (AS (last k d)),.int .i64 0])∧Ch (fun _=>False) w w':=by
 have hcall:=O5 k hk d hd;obtain⟨Z,hZ⟩:∃Z,Z=AS (List.replicate 32 0):=⟨_,rfl⟩
 have hzh:=Ft;rw[←hZ] at hzh;have hZs:Z.size=32:=by rw[hZ];rfl
 obtain⟨K,hK⟩:∃K,K=AS k:=⟨_,rfl⟩
 have hKs:K.size=32:=by rw[hK,AU,hk]
 obtain⟨O,hO⟩:∃O,O=AS (last k d):=⟨_,rfl⟩
 have hos:O.size=32:=by rw[hO,AU,DP,hk]
 have ho1:=BO (last k d);rw[←hK, ←hO] at hcall;rw[←hO] at ho1;rw[←hK];have HC:=Lib.hid hcall;have HZ:=(hIq hzh hZs)
 have HK:=Lib.hid hKs;have HO:=(hIq hO (aIq hos ho1))
 clear hcall hZ hzh hZs hK hKs hO hos ho1 hk hd;go_enter Tryz.func172,Tryz.ntmps172
 go_wp2_with (first
  | ((with_reducible show zOq (.alloc 47));refine AO rfl 47 rfl (.agg Z) HZ.out.1 ?_;dsimp only[Value.cells];try simp only[World.size_alloc])
  | ((with_reducible show zOq (.load 47 _));refine AJ rfl 47 _ rfl w.heap.size 0 rfl (AQ (heap_alloc_new _ _) _) Tryz.underlying47 rfl Ab (by rw[HK.out];omega) K (by simp[←HK.out]) ?_))
 refine(HC.out _).mono ?_;rintro e w4 ⟨rfl,hc4⟩
 have hz4:=hc4.row (show((w.alloc (.cells K 47)).alloc (.cells Z 47)).heap[w.heap.size+1]?=some (.cells Z 47 (0,0)) by
  have:=heap_alloc_new (w.alloc (.cells K 47)) (.cells Z 47);simpa using this) id
 have hw4:=(((Ch.refl (fun _=>False) w).alloc (.cells K 47)).alloc (.cells Z 47)).trans hc4 (fun _=>fEq);have Z4:=Lib.hid hz4;have W4:=Lib.hid hw4;clear hc4 hz4 hw4
 go_wp2_with (first
  | ((with_reducible show zOq (.store 47 _ _));refine AI rfl 47 _ _ rfl (w.heap.size+1) 0 O rfl rfl Z4.out (by rw[Ab,HO.out.2.1]) (by rw[HO.out.2.1,HZ.out.2];omega) HO.out.2.2 O (by rw[AT _ _ (by rw[Array.length_toList,Array.length_toList,HO.out.2.1,HZ.out.2])]) ?_))
 exact Al (p:=4) (u:=5) rfl rfl (AK Z4.out _) Tryz.underlying47 rfl (by rw[Ab,HO.out.2.1]) rfl ⟨by rw[HO.out.1];rfl,W4.out.setRow (.inr (by omega)) _⟩
end Go.Proofs.YtngbdbpofifimaaGreat.Path
namespace Go.Proofs.YtngbdbpofifimaaGreat.Store
open Go.RowKit Go.Proofs.YtngbdbpofifimaaGreat.ShaW Go.Proofs.YtngbdbpofifimaaGreat.Path
theorem cmp_lastFrom:∀(e k:List UInt8) (d i:Int),e.length=k.length→(∀j:Nat,(j:Int)<d-8*i→Ao e j=Ao k j)→¬Lib.compareBytes (DA d i k) e<0
 | [],[],d,i,_,_=>by simp[DA,Lib.compareBytes]
 | [],_::_,d,i,h,_=>by simp at h
 | _::_,[],d,i,h,_=>by simp at h
 | y::e,x::k,d,i,h,hp=>by
  have ih:=cmp_lastFrom e k d (i+1) (by simpa using h) (fun j hj=>by
   have:=hp (j+8) (by omega)
   rwa [IU,IU] at this)
  have hb:∀j:Nat,j<8→(j:Int)<d-8*i→Ck y j=Ck x j:=fun j hj hd=>by
   have:=hp j hd
   rwa [Em y e hj,Em x k hj] at this
  have hle:y.toNat≤(Bi x (d-8*i)).toNat:=by
   unfold Bi;split
   · have:=y.toNat_lt;show _≤255;omega
   rename_i h0;split
   · rename_i h8
     obtain⟨c,hc⟩:∃c:Nat,d-8*i=(c:Int):=⟨(d-8*i).toNat,by omega⟩
     rw[hc];have hc8:c<8:=by omega
     have hc0:0<c:=by omega
     have he:=Je y x c (by omega) (fun j hj=>hb j (by omega) (by omega));have hlt:=Dv ⟨x.toNat,x.toNat_lt⟩ ⟨c-1,by omega⟩;simp only[show c-1+1=c by omega] at hlt;rw[Int.toNat_natCast,UInt8.toNat_ofNat',Nat.mod_eq_of_lt hlt, ←he];have h1:=Nat.div_add_mod y.toNat (2 ^ (8-c));have h2:=Nat.mod_lt y.toNat (Nat.two_pow_pos (8-c));rw[Nat.mul_comm] at h1;omega
   rename_i h8;have:y=x:=Px y x (fun j hj=>hb j hj (by omega));rw[this];exact Nat.le_refl _
  unfold DA Lib.compareBytes;have h1:¬Bi x (d-8*i)<y:=fun h=>by rw[Hw] at h;omega
  rw[if_neg h1];split
  · omega
  exact ih
theorem Us {e k:List UInt8} {d:Nat} (h:e.length=k.length) (hp:Pre e k d):¬Lib.compareBytes (last k d) e<0 :=
 cmp_lastFrom e k d 0 h (fun j hj=>hp j (by omega))
theorem TT {a b c:List UInt8} {d:Nat} (ha:a.length=32) (hb:b.length=32) (hc:c.length=32) (hd:d<256) (hac:Pre a c (d+1)) (hab:Pre a b d) (hn:Ao a d≠Ao b d):(Lib.compareBytes a b<0↔Lib.compareBytes c b<0)∧(Ao a d=0↔Lib.compareBytes a b<0):=by
 have hcb:Pre c b d:=(hac.less (Nat.le_succ d)).symm.trans hab;have hcd:Ao c d=Ao a d:=(hac d (Nat.lt_succ_self d)).symm;rcases BX a d with h0|h1
 · have hb1:Ao b d=1:=by rcases BX b d with h|h;exact absurd (h0.trans h.symm) hn;exact h
   have e1:=Dw a b d (by omega) (by omega) hab h0 hb1;have e2:=Dw c b d (by omega) (by omega) hcb (hcd.trans h0) hb1;rw[e1,e2,h0]
   decide
 have hb0:Ao b d=0:=by rcases BX b d with h|h;exact h;exact absurd (h1.trans h.symm) hn
 have e1:=Dw b a d (by omega) (by omega) hab.symm hb0 h1;have e2:=Dw b c d (by omega) (by omega) hcb.symm hb0 (hcd.trans h1)
 have n1:¬Lib.compareBytes a b<0:=fun h=>by
  have:=CP a b a h (by rw[e1];decide);rw[F7] at this;omega
 have n2:¬Lib.compareBytes c b<0:=fun h=>by
  have:=CP c b c h (by rw[e2];decide);rw[F7] at this;omega
 exact⟨⟨fun h=>absurd h n1,fun h=>absurd h n2⟩,fun h=>(by omega),fun h=>absurd h n1⟩
def Tr.Ah:Tr→Av
 | .nil => []
 | .leaf k v => [(k,v)]
 | .node l r=>l.Ah++r.Ah
theorem Tr.BS:∀t:Tr,t.Ah.length=t.leaves
 | .nil=>rfl
 | .leaf _ _=>rfl
 | .node l r=>by
  show(l.Ah++r.Ah).length=l.leaves+r.leaves
  rw[List.length_append,l.BS,r.BS]
def Ltk (p q:List UInt8×List UInt8):Prop:=Lib.compareBytes p.1 q.1<0
theorem Rep.D1 {f:View} (hz:f 0=none) {d:Nat} {t:Tr} (hr:Rep f 0 d t):t=.nil:=by
 cases hr with
 | nil=>rfl
 | leaf hn _=>rw[hz] at hn;cases hn
 | node hn _ _ _ _=>rw[hz] at hn;cases hn
theorem Rep.Ah {f:View} (hf:Fit f) {h:Int} {d:Nat} {t:Tr} (hr:Rep f h d t) :
 (∀e∈t.Ah,e.1.length=32∧e.2.length≤1024)∧(∀n,f h=some n→∀e∈t.Ah,(n.kind=2→Pre e.1 n.key d)∧(n.kind≠2→e.1=n.key))∧t.Ah.Pairwise Ltk:=by
 induction hr with
 | nil=>exact⟨fun e he=>(by cases he),fun n hn=>(by rw[hf.zero] at hn;cases hn),List.Pairwise.nil⟩
 | @leaf h d n hn hk =>
  obtain⟨_,ho⟩:=hf.leaf hn (by omega);refine⟨fun e he=>?_,fun m hm e he=>?_,List.pairwise_singleton _ _⟩
  · obtain rfl:=List.mem_singleton.1 he
    exact⟨ho.key,ho.value⟩
  obtain rfl:=List.mem_singleton.1 he;rw[hn] at hm;cases hm;exact⟨fun h2=>absurd h2 (by omega),fun _=>rfl⟩
 | @node h d n l r hn hk hd hl hr ihl ihr =>
  obtain⟨al,bl,cl⟩:=ihl;obtain⟨ar,br,cr⟩:=ihr;obtain⟨p1,p2⟩:=hf.pre hn hk hd (k:=n.key) (fun _ _=>rfl);obtain⟨q1,q2⟩:=hf.kids hn hk;have hd1:=(hf.inner hn hk).d1;have hlt:d<256:=by omega
  have left:∀e∈l.Ah,Pre e.1 n.key d∧Ao e.1 d=0:=fun e he=>by
   rcases hl.live with h0|⟨y,hy⟩
   · rw[h0] at hl;rw[hl.D1 hf.zero] at he;cases he
   have hb:Ao y.key d=0:=I0 hlt (by have:=(q1 y hy).2;rw[hd] at this;exact this);by_cases h2:y.kind=2
   · have hp:=(bl y hy e he).1 h2
     exact⟨(hp.less (Nat.le_succ d)).trans (p1 y hy),(hp d (Nat.lt_succ_self d)).trans hb⟩
   rw[(bl y hy e he).2 h2];exact⟨p1 y hy,hb⟩
  have right:∀e∈r.Ah,Pre e.1 n.key d∧Ao e.1 d=1:=fun e he=>by
   rcases hr.live with h0|⟨y,hy⟩
   · rw[h0] at hr;rw[hr.D1 hf.zero] at he;cases he
   have hb:Ao y.key d=1:=I0 hlt (by have:=(q2 y hy).2;rw[hd] at this;exact this);by_cases h2:y.kind=2
   · have hp:=(br y hy e he).1 h2
     exact⟨(hp.less (Nat.le_succ d)).trans (p2 y hy),(hp d (Nat.lt_succ_self d)).trans hb⟩
   rw[(br y hy e he).2 h2];exact⟨p2 y hy,hb⟩
  refine⟨fun e he=>(List.mem_append.1 he).elim (al e) (ar e),fun m hm e he=>?_,List.pairwise_append.2 ⟨cl,cr,fun a ha b hb=>?_⟩⟩
  · rw[hn] at hm
    cases hm;exact⟨fun _=>(List.mem_append.1 he).elim (fun h=>(left e h).1) (fun h=>(right e h).1),fun h2=>absurd hk h2⟩
  obtain⟨a1,a2⟩:=left a ha;obtain⟨b1,b2⟩:=right b hb;unfold Ltk;rw[Dw a.1 b.1 d (by rw[(al a ha).1,(ar b hb).1]) (by rw[(al a ha).1];omega) (a1.trans b1.symm) a2 b2]
  decide
theorem Rep.sides {f:View} (hf:Fit f) {h:Int} {d:Nat} {n:Nd} {l r:Tr} (hn:f h=some n) (hk:n.kind=2) (hd:n.depth=(d:Nat)) (hl:Rep f n.left (d+1) l) (hr:Rep f n.right (d+1) r) :
 (∀e∈l.Ah,Pre e.1 n.key d∧Ao e.1 d=0)∧(∀e∈r.Ah,Pre e.1 n.key d∧Ao e.1 d=1):=by
 obtain⟨_,bl,_⟩:=hl.Ah hf;obtain⟨_,br,_⟩:=hr.Ah hf;obtain⟨p1,p2⟩:=hf.pre hn hk hd (k:=n.key) (fun _ _=>rfl);obtain⟨q1,q2⟩:=hf.kids hn hk;have hd1:=(hf.inner hn hk).d1;have hlt:d<256:=by omega
 refine⟨fun e he=>?_,fun e he=>?_⟩
 · rcases hl.live with h0|⟨y,hy⟩
   · rw[h0] at hl;rw[hl.D1 hf.zero] at he;cases he
   have hb:Ao y.key d=0:=I0 hlt (by have:=(q1 y hy).2;rw[hd] at this;exact this);by_cases h2:y.kind=2
   · have hp:=(bl y hy e he).1 h2
     exact⟨(hp.less (Nat.le_succ d)).trans (p1 y hy),(hp d (Nat.lt_succ_self d)).trans hb⟩
   rw[(bl y hy e he).2 h2];exact⟨p1 y hy,hb⟩
 rcases hr.live with h0|⟨y,hy⟩
 · rw[h0] at hr;rw[hr.D1 hf.zero] at he;cases he
 have hb:Ao y.key d=1:=I0 hlt (by have:=(q2 y hy).2;rw[hd] at this;exact this);by_cases h2:y.kind=2
 · have hp:=(br y hy e he).1 h2
   exact⟨(hp.less (Nat.le_succ d)).trans (p2 y hy),(hp d (Nat.lt_succ_self d)).trans hb⟩
 rw[(br y hy e he).2 h2];exact⟨p2 y hy,hb⟩
theorem Rep.slot {f:View} {h:Int} {d:Nat} {t:Tr} (hr:Rep f h d t):∀e∈t.Ah,∃k n,f k=some n∧n.key=e.1:=by
 induction hr with
 | nil=>exact fun e he=>by cases he
 | leaf hn hk =>
  intro e he;obtain rfl:=List.mem_singleton.1 he;exact⟨_,_,hn,rfl⟩
 | node _ _ _ _ _ ihl ihr=>exact fun e he=>(List.mem_append.1 he).elim (ihl e) (ihr e)
theorem JV {σ:AG Nd} (G:Good σ) {h:Int} {d:Nat} {t:Tr} (hr:Rep (sk σ) h d t):t.Ah.length≤σ.slots.length:=by
 have hs:=hr.slot;have hp:=(hr.Ah G.fit).2.2
 have hch:∃g:List UInt8×List UInt8→Int,∀e∈t.Ah,∃n,sk σ (g e)=some n∧n.key=e.1:=by
  refine⟨fun e=>if he:e∈t.Ah then Classical.choose (hs e he) else 0,fun e he=>?_⟩;simp only[dif_pos he];exact Classical.choose_spec (hs e he)
 obtain⟨g,hg⟩:=hch
 have hnd:(t.Ah.map (fun e=>(g e).toNat)).Nodup:=by
  rw[List.Nodup,List.pairwise_map];refine hp.imp_of_mem ?_;intro a b ha hb hlt e;obtain⟨n,hn,hnk⟩:=hg a ha;obtain⟨m,hm,hmk⟩:=hg b hb;obtain⟨x,hx,_⟩:=Ev hn;obtain⟨y,hy,_⟩:=Ev hm;obtain⟨i,hi,_⟩:=AG.Ac hx;obtain⟨j,hj,_⟩:=AG.Ac hy;have:g a=g b:=by omega
  rw[this,hm] at hn;cases hn;unfold Ltk at hlt;rw[←hnk, ←hmk,F7] at hlt;omega
 have hsub:∀x∈t.Ah.map (fun e=>(g e).toNat),x∈List.range' 1 σ.slots.length:=fun x hx=>by
  obtain⟨e,he,rfl⟩:=List.mem_map.1 hx;obtain⟨n,hn,_⟩:=hg e he;obtain⟨y,hy,_⟩:=Ev hn;obtain⟨i,hi,_,_,hlt⟩:=AG.Ac hy;simp only[List.mem_range'_1];omega
 have:=CL _ _ hnd hsub;simpa using this
def geK (key:List UInt8) (e:List UInt8×List UInt8):Bool := !decide (Lib.compareBytes e.1 key<0)
def ltK (key:List UInt8) (e:List UInt8×List UInt8):Bool:=decide (Lib.compareBytes e.1 key<0)
def Tr.from (t:Tr) (key:List UInt8):Av:=t.Ah.filter (geK key)
def Tr.Bx (t:Tr) (key:List UInt8):Nat:=(t.Ah.filter (ltK key)).length
theorem Tr.QO (l r:Tr) (key:List UInt8):(Tr.node l r).Bx key=l.Bx key+r.Bx key:=by
 show((l.Ah++r.Ah).filter _).length=_
 rw[List.filter_append,List.length_append];rfl
theorem Tr.Q7 (l r:Tr) (key:List UInt8):(Tr.node l r).from key=l.from key++r.from key:=List.filter_append _ _
theorem Mv {t:Tr} {key:List UInt8} (h:∀e∈t.Ah,Lib.compareBytes e.1 key<0):t.Bx key=t.leaves:=by
 unfold Tr.Bx;rw[List.filter_eq_self.2 (fun e he=>by unfold ltK;exact decide_eq_true (h e he)),Tr.BS]
theorem LV {t:Tr} {key:List UInt8} (h:∀e∈t.Ah,¬Lib.compareBytes e.1 key<0):t.Bx key=0:=by
 unfold Tr.Bx;rw[List.filter_eq_nil_iff.2 (fun e he=>by unfold ltK;simp[h e he])];rfl
theorem Qd {t:Tr} {key:List UInt8} (h:∀e∈t.Ah,Lib.compareBytes e.1 key<0):t.from key = [] :=
 List.filter_eq_nil_iff.2 (fun e he=>by unfold geK;simp[h e he])
theorem Iw (t:Tr) (key:List UInt8):t.Bx key+(t.from key).length=t.leaves:=by
 unfold Tr.Bx Tr.from;rw[←Tr.BS]
 induction t.Ah with
 | nil=>rfl
 | cons e l ih =>
  rw[List.filter_cons,List.filter_cons];by_cases h:Lib.compareBytes e.1 key<0
  · simp[geK,ltK,h] at ih ⊢;omega
  simp[geK,ltK,h] at ih ⊢;omega
def By:List UInt8→List UInt8×Bool
 | []=>([],false)
 | x::l=>if (By l).2=true then (x::(By l).1,true) else if x=255 then (0::(By l).1,false) else ((x+1)::(By l).1,true)
theorem EM:∀l,(By l).1.length=l.length
 | []=>rfl
 | x::l=>by
  unfold By;have ih:=EM l;split
  · simp[ih]
  split<;>simp[ih]
theorem Hp:∀j,By (List.replicate j 255)=(List.replicate j 0,false)
 | 0=>rfl
 | j+1=>by
  rw[List.replicate_succ,By,Hp j];simp[List.replicate_succ]
theorem Kk (x:UInt8) (hx:x≠255) (j:Nat):∀a:List UInt8,By (a++x::List.replicate j 255)=(a++(x+1)::List.replicate j 0,true)
 | []=>by
  show By (x::List.replicate j 255)=_
  rw[By,Hp j];simp[hx]
 | y::a=>by
  show By (y::(a++x::List.replicate j 255))=_
  rw[By,Kk x hx j a];simp
theorem Iz:∀(e:List UInt8),¬Lib.compareBytes e (List.replicate e.length 0)<0
 | []=>by simp[Lib.compareBytes]
 | y::e=>by
  rw[List.length_cons,List.replicate_succ];unfold Lib.compareBytes;have h1:¬y<0:=fun h=>by rw[Hw] at h;simp at h
  rw[if_neg h1];split
  · omega
  exact Iz e
theorem Js:∀l:List UInt8,(By l).2=false→l=List.replicate l.length 255∧(By l).1=List.replicate l.length 0
 | [],_=>⟨rfl,rfl⟩
 | x::l,h=>by
  unfold By at h ⊢;split at h
  · cases h
  rename_i h0;split at h
  · rename_i hx
    obtain⟨p,q⟩:=Js l (by simpa using h0);rw[if_neg h0,if_pos hx];simp only[List.length_cons,List.replicate_succ];exact⟨by rw[hx];congr 1,by rw[q]⟩
  cases h
theorem Kj:∀(e:List UInt8),¬Lib.compareBytes (List.replicate e.length 255) e<0
 | []=>by simp[Lib.compareBytes]
 | y::e=>by
  rw[List.length_cons,List.replicate_succ];unfold Lib.compareBytes;have h1:¬(255:UInt8)<y:=fun h=>by rw[Hw] at h;have:=y.toNat_lt;simp at h;omega
  rw[if_neg h1];split
  · omega
  exact Kj e
theorem Ny:∀(k e:List UInt8),e.length=k.length→(By k).2=true→(Lib.compareBytes e (By k).1<0↔¬Lib.compareBytes k e<0)
 | [],_,_,h=>by cases h
 | x::k,[],h,_=>by simp at h
 | x::k,y::e,hl,h=>by
  have hl':e.length=k.length:=by simpa using hl
  unfold By at h ⊢;by_cases h0:(By k).2=true
  · rw[if_pos h0]
    have ih:=Ny k e hl' h0;simp only;unfold Lib.compareBytes;by_cases a:y<x
    · have b:¬x<y:=fun h=>by rw[Hw] at a h;omega
      simp[a,b]
    by_cases b:x<y
    · simp[a,b]
    simp only[if_neg a,if_neg b];exact ih
  rw[if_neg h0] at h ⊢;by_cases hx:x=255
  · rw[if_pos hx] at h;cases h
  rw[if_neg hx];obtain⟨p,q⟩:=Js k (by simpa using h0);simp only;rw[q, ←hl'];have z:=Iz e;have f:¬Lib.compareBytes k e<0:=by rw[p, ←hl'];exact Kj e
  have hxn:(x+1).toNat=x.toNat+1:=by
   have h1:=x.toNat_lt;have h2:x.toNat≠255:=fun e=>hx (UInt8.toNat_inj.1 e)
   rw[UInt8.toNat_add]
   show(x.toNat+1) % 256=_
   omega
  unfold Lib.compareBytes;by_cases a:y<x+1
  · have b:¬x<y:=fun h=>by rw[Hw] at a h;omega
    rw[if_pos a,if_neg b];by_cases c:y<x
    · rw[if_pos c];decide
    rw[if_neg c];exact⟨fun _=>f,fun _=>by decide⟩
  have b:x<y:=by rw[Hw] at a ⊢;omega
  rw[if_neg a,if_pos b];by_cases c:x+1<y
  · rw[if_pos c];decide
  rw[if_neg c];exact⟨fun h=>absurd h z,fun h=>absurd (show(-1:Int)<0 by decide) h⟩
theorem Qr (t:Tr) {k:List UInt8} (hk:k.length=32) (ht:∀e∈t.Ah,e.1.length=32) (h:(By k).2=true):t.Bx (By k).1=(t.Ah.filter (fun e => !decide (Lib.compareBytes k e.1<0))).length:=by
 unfold Tr.Bx
 congr 1
 refine List.filter_congr fun e he=>?_
 unfold ltK;rw[Bool.eq_iff_iff];simpa using Ny k e.1 (by rw[ht e he,hk]) h
end Go.Proofs.YtngbdbpofifimaaGreat.Store

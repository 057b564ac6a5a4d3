/- Laws of the layers below. -/
import Derived.Test.YtooijgcildbnlaaGreatQg4
set_option maxHeartbeats 3200000
set_option maxRecDepth 100000
set_option linter.unusedVariables false
namespace Go.Proofs.YtooijgcildbnlaaGreat.ShaW
open Go.RowKit
theorem EB (x:UInt32) (n:Nat) (A B:Int) (h0:0<n) (h:n<32) (hA:A=2 ^ (32-n)) (hB:B=2 ^ n):bits .or .u32 ((x.toNat:Int) / B) ((x.toNat:Int)*A % 4294967296)=((Bv x n).toNat:Int):=by
 rw[Nq x (32-n) A (by omega) hA,Qa x n B h hB,Tx,Bv,UInt32.or_comm]
theorem U3 (x:UInt32) (w:World):Calls Tryz.prog 322 #[wv x,.int .i64 2] w fun e w'=>e=.returned (wv (Bv x 2))∧w'=w.drew:=by
 go_enter Tryz.func322,Tryz.ntmps322;go_wp2;refine AS (fun w0=>w0=(w).drew) 9 [(0,false),(1,false),(2,false),(3,false),(4,false),(5,false),(6,false),(7,false),(8,false)] (by kernel_rfl) (by kernel_rfl) rfl ?_
 iterate 9 refine plan_look rfl rfl (fun w0 hS=>(by subst hS;go_simp;try rfl)) ?_
 refine Ae ?_;simp only[List.drop_succ_cons,List.drop_zero,Act.put,List.setIfInBounds_toArray,List.set_cons_succ,List.set_cons_zero];go_wp2;refine NoPanic.normal ?_;go_wp2;go_ret;exact⟨congrArg (fun z=>Ending.returned (.int .u32 z)) (EB x 2 1073741824 4 (by omega) (by omega) rfl rfl),rfl⟩
theorem Vh (x:UInt32) (w:World):Calls Tryz.prog 322 #[wv x,.int .i64 6] w fun e w'=>e=.returned (wv (Bv x 6))∧w'=w.drew:=by
 go_enter Tryz.func322,Tryz.ntmps322;go_wp2;refine AS (fun w0=>w0=(w).drew) 9 [(0,false),(1,false),(2,false),(3,false),(4,false),(5,false),(6,false),(7,false),(8,false)] (by kernel_rfl) (by kernel_rfl) rfl ?_
 iterate 9 refine plan_look rfl rfl (fun w0 hS=>(by subst hS;go_simp;try rfl)) ?_
 refine Ae ?_;simp only[List.drop_succ_cons,List.drop_zero,Act.put,List.setIfInBounds_toArray,List.set_cons_succ,List.set_cons_zero];go_wp2;refine NoPanic.normal ?_;go_wp2;go_ret;exact⟨congrArg (fun z=>Ending.returned (.int .u32 z)) (EB x 6 67108864 64 (by omega) (by omega) rfl rfl),rfl⟩
theorem V3 (x:UInt32) (w:World):Calls Tryz.prog 322 #[wv x,.int .i64 7] w fun e w'=>e=.returned (wv (Bv x 7))∧w'=w.drew:=by
 go_enter Tryz.func322,Tryz.ntmps322;go_wp2;refine AS (fun w0=>w0=(w).drew) 9 [(0,false),(1,false),(2,false),(3,false),(4,false),(5,false),(6,false),(7,false),(8,false)] (by kernel_rfl) (by kernel_rfl) rfl ?_
 iterate 9 refine plan_look rfl rfl (fun w0 hS=>(by subst hS;go_simp;try rfl)) ?_
 refine Ae ?_;simp only[List.drop_succ_cons,List.drop_zero,Act.put,List.setIfInBounds_toArray,List.set_cons_succ,List.set_cons_zero];go_wp2;refine NoPanic.normal ?_;go_wp2;go_ret;exact⟨congrArg (fun z=>Ending.returned (.int .u32 z)) (EB x 7 33554432 128 (by omega) (by omega) rfl rfl),rfl⟩
theorem Sy (x:UInt32) (w:World):Calls Tryz.prog 322 #[wv x,.int .i64 11] w fun e w'=>e=.returned (wv (Bv x 11))∧w'=w.drew:=by
 go_enter Tryz.func322,Tryz.ntmps322;go_wp2;refine AS (fun w0=>w0=(w).drew) 9 [(0,false),(1,false),(2,false),(3,false),(4,false),(5,false),(6,false),(7,false),(8,false)] (by kernel_rfl) (by kernel_rfl) rfl ?_
 iterate 9 refine plan_look rfl rfl (fun w0 hS=>(by subst hS;go_simp;try rfl)) ?_
 refine Ae ?_;simp only[List.drop_succ_cons,List.drop_zero,Act.put,List.setIfInBounds_toArray,List.set_cons_succ,List.set_cons_zero];go_wp2;refine NoPanic.normal ?_;go_wp2;go_ret;exact⟨congrArg (fun z=>Ending.returned (.int .u32 z)) (EB x 11 2097152 2048 (by omega) (by omega) rfl rfl),rfl⟩
theorem Ub (x:UInt32) (w:World):Calls Tryz.prog 322 #[wv x,.int .i64 13] w fun e w'=>e=.returned (wv (Bv x 13))∧w'=w.drew:=by
 go_enter Tryz.func322,Tryz.ntmps322;go_wp2;refine AS (fun w0=>w0=(w).drew) 9 [(0,false),(1,false),(2,false),(3,false),(4,false),(5,false),(6,false),(7,false),(8,false)] (by kernel_rfl) (by kernel_rfl) rfl ?_
 iterate 9 refine plan_look rfl rfl (fun w0 hS=>(by subst hS;go_simp;try rfl)) ?_
 refine Ae ?_;simp only[List.drop_succ_cons,List.drop_zero,Act.put,List.setIfInBounds_toArray,List.set_cons_succ,List.set_cons_zero];go_wp2;refine NoPanic.normal ?_;go_wp2;go_ret;exact⟨congrArg (fun z=>Ending.returned (.int .u32 z)) (EB x 13 524288 8192 (by omega) (by omega) rfl rfl),rfl⟩
theorem TM (x:UInt32) (w:World):Calls Tryz.prog 322 #[wv x,.int .i64 17] w fun e w'=>e=.returned (wv (Bv x 17))∧w'=w.drew:=by
 go_enter Tryz.func322,Tryz.ntmps322;go_wp2;refine AS (fun w0=>w0=(w).drew) 9 [(0,false),(1,false),(2,false),(3,false),(4,false),(5,false),(6,false),(7,false),(8,false)] (by kernel_rfl) (by kernel_rfl) rfl ?_
 iterate 9 refine plan_look rfl rfl (fun w0 hS=>(by subst hS;go_simp;try rfl)) ?_
 refine Ae ?_;simp only[List.drop_succ_cons,List.drop_zero,Act.put,List.setIfInBounds_toArray,List.set_cons_succ,List.set_cons_zero];go_wp2;refine NoPanic.normal ?_;go_wp2;go_ret;exact⟨congrArg (fun z=>Ending.returned (.int .u32 z)) (EB x 17 32768 131072 (by omega) (by omega) rfl rfl),rfl⟩
theorem Ue (x:UInt32) (w:World):Calls Tryz.prog 322 #[wv x,.int .i64 18] w fun e w'=>e=.returned (wv (Bv x 18))∧w'=w.drew:=by
 go_enter Tryz.func322,Tryz.ntmps322;go_wp2;refine AS (fun w0=>w0=(w).drew) 9 [(0,false),(1,false),(2,false),(3,false),(4,false),(5,false),(6,false),(7,false),(8,false)] (by kernel_rfl) (by kernel_rfl) rfl ?_
 iterate 9 refine plan_look rfl rfl (fun w0 hS=>(by subst hS;go_simp;try rfl)) ?_
 refine Ae ?_;simp only[List.drop_succ_cons,List.drop_zero,Act.put,List.setIfInBounds_toArray,List.set_cons_succ,List.set_cons_zero];go_wp2;refine NoPanic.normal ?_;go_wp2;go_ret;exact⟨congrArg (fun z=>Ending.returned (.int .u32 z)) (EB x 18 16384 262144 (by omega) (by omega) rfl rfl),rfl⟩
theorem TT (x:UInt32) (w:World):Calls Tryz.prog 322 #[wv x,.int .i64 19] w fun e w'=>e=.returned (wv (Bv x 19))∧w'=w.drew:=by
 go_enter Tryz.func322,Tryz.ntmps322;go_wp2;refine AS (fun w0=>w0=(w).drew) 9 [(0,false),(1,false),(2,false),(3,false),(4,false),(5,false),(6,false),(7,false),(8,false)] (by kernel_rfl) (by kernel_rfl) rfl ?_
 iterate 9 refine plan_look rfl rfl (fun w0 hS=>(by subst hS;go_simp;try rfl)) ?_
 refine Ae ?_;simp only[List.drop_succ_cons,List.drop_zero,Act.put,List.setIfInBounds_toArray,List.set_cons_succ,List.set_cons_zero];go_wp2;refine NoPanic.normal ?_;go_wp2;go_ret;exact⟨congrArg (fun z=>Ending.returned (.int .u32 z)) (EB x 19 8192 524288 (by omega) (by omega) rfl rfl),rfl⟩
theorem Tc (x:UInt32) (w:World):Calls Tryz.prog 322 #[wv x,.int .i64 22] w fun e w'=>e=.returned (wv (Bv x 22))∧w'=w.drew:=by
 go_enter Tryz.func322,Tryz.ntmps322;go_wp2;refine AS (fun w0=>w0=(w).drew) 9 [(0,false),(1,false),(2,false),(3,false),(4,false),(5,false),(6,false),(7,false),(8,false)] (by kernel_rfl) (by kernel_rfl) rfl ?_
 iterate 9 refine plan_look rfl rfl (fun w0 hS=>(by subst hS;go_simp;try rfl)) ?_
 refine Ae ?_;simp only[List.drop_succ_cons,List.drop_zero,Act.put,List.setIfInBounds_toArray,List.set_cons_succ,List.set_cons_zero];go_wp2;refine NoPanic.normal ?_;go_wp2;go_ret;exact⟨congrArg (fun z=>Ending.returned (.int .u32 z)) (EB x 22 1024 4194304 (by omega) (by omega) rfl rfl),rfl⟩
theorem TY (x:UInt32) (w:World):Calls Tryz.prog 322 #[wv x,.int .i64 25] w fun e w'=>e=.returned (wv (Bv x 25))∧w'=w.drew:=by
 go_enter Tryz.func322,Tryz.ntmps322;go_wp2;refine AS (fun w0=>w0=(w).drew) 9 [(0,false),(1,false),(2,false),(3,false),(4,false),(5,false),(6,false),(7,false),(8,false)] (by kernel_rfl) (by kernel_rfl) rfl ?_
 iterate 9 refine plan_look rfl rfl (fun w0 hS=>(by subst hS;go_simp;try rfl)) ?_
 refine Ae ?_;simp only[List.drop_succ_cons,List.drop_zero,Act.put,List.setIfInBounds_toArray,List.set_cons_succ,List.set_cons_zero];go_wp2;refine NoPanic.normal ?_;go_wp2;go_ret;exact⟨congrArg (fun z=>Ending.returned (.int .u32 z)) (EB x 25 128 33554432 (by omega) (by omega) rfl rfl),rfl⟩
def Ec (b:List UInt8) (k:Nat):Nat→UInt32
 | 0=>0
 | j+1=>wa (Ec b k j <<< 8) (b.getD (4*k+j) 0).toUInt32
theorem Wl (x y:UInt32) (i:Nat) (hi:i<32) (hx:x.toNat<2 ^ (32-i)) (hy:y.toNat<2 ^ i):((x <<< UInt32.ofNat i) ||| y).toNat=x.toNat*2 ^ i+y.toNat:=by
 have hm:(UInt32.ofNat i).toNat % 32=i:=by rw[UInt32.toNat_ofNat'];omega
 have hp:x.toNat*2 ^ i<2 ^ 32:=by
  have:=Nat.mul_lt_mul_of_pos_right hx (Nat.two_pow_pos i)
  rwa [←Nat.pow_add,show 32-i+i=32 by omega] at this
 rw[UInt32.toNat_or,UInt32.toNat_shiftLeft,hm,Nat.shiftLeft_eq,Nat.mod_eq_of_lt hp, ←Nat.shiftLeft_eq, ←Nat.shiftLeft_add_eq_or_of_lt hy,Nat.shiftLeft_eq]
theorem XH (a b c d:UInt8):(Sha.be a b c d).toNat=((a.toNat*256+b.toNat)*256+c.toNat)*256+d.toNat:=by
 have ha:=a.toNat_lt;have hb:=b.toNat_lt;have hc:=c.toNat_lt;have hd:=d.toNat_lt
 have e1:((a.toUInt32 <<< 24) ||| (b.toUInt32 <<< 16)).toNat=a.toNat*16777216+b.toNat*65536:=by
  have hb2:(b.toUInt32 <<< 16).toNat=b.toNat*65536:=by
   rw[UInt32.toNat_shiftLeft]
   show b.toUInt32.toNat <<< 16 % 2 ^ 32=_
   rw[UInt8.toNat_toUInt32,Nat.shiftLeft_eq];omega
  have:=Wl a.toUInt32 (b.toUInt32 <<< 16) 24 (by omega) (by rw[UInt8.toNat_toUInt32];omega) (by rw[hb2];omega);rw[hb2,UInt8.toNat_toUInt32] at this;exact this
 have e2:(((a.toUInt32 <<< 24) ||| (b.toUInt32 <<< 16)) ||| (c.toUInt32 <<< 8)).toNat=a.toNat*16777216+b.toNat*65536+c.toNat*256:=by
  have hc2:(c.toUInt32 <<< 8).toNat=c.toNat*256:=by
   rw[UInt32.toNat_shiftLeft]
   show c.toUInt32.toNat <<< 8 % 2 ^ 32=_
   rw[UInt8.toNat_toUInt32,Nat.shiftLeft_eq];omega
  rw[UInt32.toNat_or,e1,hc2,show a.toNat*16777216+b.toNat*65536=(a.toNat*256+b.toNat) <<< 16 by rw[Nat.shiftLeft_eq];omega, ←Nat.shiftLeft_add_eq_or_of_lt (by omega)]
 have hd2:d.toUInt32.toNat=d.toNat:=UInt8.toNat_toUInt32 d;unfold Sha.be;rw[UInt32.toNat_or,e2,hd2,show a.toNat*16777216+b.toNat*65536+c.toNat*256=(a.toNat*65536+b.toNat*256+c.toNat) <<< 8 by rw[Nat.shiftLeft_eq];omega, ←Nat.shiftLeft_add_eq_or_of_lt (by omega),Nat.shiftLeft_eq];omega
theorem Im (p:UInt32) (x:UInt8) (hp:p.toNat<16777216):(wa (p <<< 8) x.toUInt32).toNat=p.toNat*256+x.toNat:=by
 have hx:=x.toNat_lt;unfold wa;rw[UInt32.toNat_add,UInt32.toNat_shiftLeft]
 show(p.toNat <<< 8 % 2 ^ 32+x.toUInt32.toNat) % 2 ^ 32=_
 rw[UInt8.toNat_toUInt32,Nat.shiftLeft_eq];omega
theorem PH (b:List UInt8) (k:Nat):Ec b k 4=Sha.word b k:=by
 apply UInt32.toNat.inj;unfold Sha.word;rw[XH];have h0:=(b.getD (4*k) 0).toNat_lt;have h1:=(b.getD (4*k+1) 0).toNat_lt;have h2:=(b.getD (4*k+2) 0).toNat_lt;have h3:=(b.getD (4*k+3) 0).toNat_lt
 have p1:(Ec b k 1).toNat=(b.getD (4*k) 0).toNat:=by
  show(wa (Ec b k 0 <<< 8) _).toNat=_
  rw[Im _ _ (by show(0:UInt32).toNat<_;decide)]
  show(0:UInt32).toNat*256+_=_
  simp
 have p2:(Ec b k 2).toNat=(b.getD (4*k) 0).toNat*256+(b.getD (4*k+1) 0).toNat:=by
  show(wa (Ec b k 1 <<< 8) _).toNat=_
  rw[Im _ _ (by rw[p1];omega),p1]
 have p3:(Ec b k 3).toNat=((b.getD (4*k) 0).toNat*256+(b.getD (4*k+1) 0).toNat)*256+(b.getD (4*k+2) 0).toNat:=by
  show(wa (Ec b k 2 <<< 8) _).toNat=_
  rw[Im _ _ (by rw[p2];omega),p2]
 show(wa (Ec b k 3 <<< 8) _).toNat=_
 rw[Im _ _ (by rw[p3];omega),p3]
theorem Rz (p:UInt32) (x:UInt8):((p.toNat:Int)*(256:Int)+(x.toNat:Int)) % (4294967296:Int)=((wa (p <<< 8) x.toUInt32).toNat:Int):=by
 have hx:=x.toNat_lt;have hp:=p.toNat_lt;unfold wa;rw[UInt32.toNat_add,UInt32.toNat_shiftLeft]
 show _=(((p.toNat <<< 8 % 2 ^ 32+x.toUInt32.toNat) % 2 ^ 32:Nat):Int)
 rw[UInt8.toNat_toUInt32,Nat.shiftLeft_eq];omega
theorem X2 (x:UInt32):bits .xor .u32 ((wx (Bv x 17) (Bv x 19)).toNat:Int) ((x.toNat:Int) / (1024:Int))=((Sha.Qy x).toNat:Int):=by
 have h:(x.toNat:Int) / (1024:Int)=((x >>> 10).toNat:Int):=Qp x;rw[h,JV];rfl
theorem Xh (x:UInt32):bits .xor .u32 ((wx (Bv x 7) (Bv x 18)).toNat:Int) ((x.toNat:Int) / (8:Int))=((Sha.Qw x).toNat:Int):=by
 have h:(x.toNat:Int) / (8:Int)=((x >>> 3).toNat:Int):=Ua x;rw[h,JV];rfl
theorem UB {A:Array Value} {k:Nat} {v:Value} (h:A[k]?=some v):A.setIfInBounds k v=A:=by
 apply Array.ext';rw[Array.toList_setIfInBounds];rw[←Array.getElem?_toList] at h;obtain⟨hk,rfl⟩:=List.getElem?_eq_some_iff.1 h;exact List.set_getElem_self hk
theorem Py {l:List UInt32} (h:l.length<64):(BQ (Ct l))[l.length]?=some (wv 0):=by
 have:(List.map wv (l++List.replicate (64-l.length) 0))[l.length]?=some (wv 0):=by
  rw[List.getElem?_map,List.getElem?_append_right (Nat.le_refl _),Nat.sub_self,List.getElem?_replicate,if_pos (by omega)];rfl
 simpa[BQ,Ct] using this
theorem LG (w:World):Calls Tryz.prog 321 #[] w fun e w'=>e=.returned (.agg (BQ Sha.kc))∧Ch (fun _=>False) w w':=by
 obtain⟨K,hK⟩:∃K,BQ Sha.kc=K:=⟨_,rfl⟩
 have hs:K.size=64:=by rw[←hK];rfl
 have h1:=CF Sha.kc;rw[hK] at h1 ⊢;obtain⟨Z,hZ⟩:∃Z,DY 64=Z:=⟨_,rfl⟩
 have z0:=JG;have z1:Z.size=64:=by rw[←hZ];rfl
 rw[hZ] at z0;have HK:=Lib.hid hK;have HS:=Lib.hid hs;have H1:=Lib.hid h1;have Z0:=Lib.hid z0;have Z1:=Lib.hid z1;clear hK hs h1 z0 z1 hZ;go_enter Tryz.func321,Tryz.ntmps321
 go_wp2_with (first
  | ((with_reducible show zOq (.alloc 382));refine AH rfl 382 rfl (.agg Z) Z0.out ?_;dsimp only[Value.cells];try simp only[World.size_alloc])
  | ((with_reducible show zOq (.build 382 _));refine wpList_build_is rfl 382 _ rfl K (by rw[←HK.out];kernel_rfl) ?_)
  | ((with_reducible show zOq (.store 382 _ _));refine AE rfl 382 _ _ rfl w.heap.size 0 K rfl rfl (heap_alloc_new _ _) (by rw[Df,HS.out]) (by rw[HS.out,Z1.out];omega) H1.out K (by rw[AI _ _ (by rw[Array.length_toList,Array.length_toList,HS.out,Z1.out])]) ?_))
 exact AN (p:=0) rfl rfl (AF (heap_alloc_new _ _) _) Tryz.underlying382 rfl (by rw[Df,HS.out]) rfl ⟨rfl,((Ch.refl _ _).alloc _).setRow (.inr (Nat.le_refl _)) _⟩
theorem Sa {w:World} {g off cap:Nat} {bs:List UInt8} (hb:Bytes w (.slice (some ⟨g,off,none⟩) 64 cap) bs) :
 Calls Tryz.prog 320 #[.slice (some ⟨g,off,none⟩) 64 cap] w fun e w'=>e=.returned (.agg (BQ (Sha.sched bs)))∧Ch (fun _=>False) w w':=by
 obtain⟨hbl,hbx⟩:=hb.at
 have hby:∀j,j<64→w.cell? ⟨g,off+j,none⟩=some (bv (bs.getD j 0)):=fun j hj=>by
  obtain⟨g',off',e,hc⟩:=hbx j (bs.getD j 0) (by rw[List.getD_eq_getElem?_getD,List.getElem?_eq_getElem (by omega)];rfl);cases e;exact hc
 have z0:=JG;obtain⟨Z,hZ⟩:∃Z,DY 64=Z:=⟨_,rfl⟩
 rw[hZ] at z0;have Z0:=(hIq z0 (aIq hZ (by rw[←hZ];simp[DY]:Z.size=64)))
 have HBY:=Lib.hid hby;clear z0 hZ hby hbx hbl hb;go_enter Tryz.func320,Tryz.ntmps320;go_wp2_with (first|((with_reducible show zOq (.alloc 382));refine AH rfl 382 rfl (.agg Z) Z0.out.1 ?_;dsimp only[Value.cells];try simp only[World.size_alloc]));go_loopg [4,5] 16 (fun gg s4 s5 wr=>∃k:Nat,k≤16∧gg=16-k∧s4=.int .i64 k∧wr.heap[w.heap.size+1]?=some (.cells (BQ (Ct (Sha.w16 bs k))) 382 (0,0))∧wr.heap[w.heap.size]?=some (.cells Z 382 (0,0))∧Ch (fun _=>False) w wr)
 case atStart =>
  have hmz:BQ (Ct (Sha.w16 bs 0))=Z:=by rw[←Z0.out.2.1];exact Lb
  refine⟨0,Nat.zero_le _,rfl,rfl,?_,?_,?_⟩
  · rw[hmz]
    have:=heap_alloc_new (w.alloc (.cells Z 382)) (.cells Z 382);simpa using this
  · exact AM (heap_alloc_new _ _) _
  exact((Ch.refl _ _).alloc _).alloc _
 obtain⟨k,hk,rfl,rfl,hrw,hr2,hch⟩:=hrel;by_cases hkl:k<16
 · have hkz:(k:Int)<16:=by omega
   have hl:(Sha.w16 bs k).length=k:=Sha.DW _ _;have h0:=Py (l:=Sha.w16 bs k) (by omega);rw[hl] at h0;obtain⟨A,hA⟩:∃A,A=BQ (Ct (Sha.w16 bs k)):=⟨_,rfl⟩
   have hAs:A.size=64:=by rw[hA,Bf,It (by omega)]
   have hend:A.setIfInBounds k (wv (Ec bs k 4))=BQ (Ct (Sha.w16 bs (k+1))):=by
    have:=Ha (l:=Sha.w16 bs k) (by omega) (Sha.word bs k);rw[hl] at this;rw[PH,hA,this,Sha.NI]
   rw[←hA] at hrw h0;have hs0:A.setIfInBounds k (wv (Ec bs k 0))=A:=UB h0;have HA:=(hIq hAs (aIq hend hs0))
   have HR2:=(hIq hr2 hch)
   have hk15:k≤15:=by omega
   have hk15':(k:Int)≤15:=by omega
   have HRW:=Lib.hid hrw;obtain⟨wo,hwo⟩:∃wo:World,wo=wr:=⟨_,rfl⟩
   subst hwo;clear hl h0 hA hAs hend hs0 hr2 hch hrw hk hkl;go_wp2;go_loopg [5] 4 (fun gg s5 wr=>∃j:Nat,j≤4∧gg=4-j∧s5=.int .i64 j∧wr.heap[w.heap.size+1]?=some (.cells (A.setIfInBounds k (wv (Ec bs k j))) 382 (0,0))∧wr.heap[w.heap.size]?=some (.cells Z 382 (0,0))∧Ch (fun _=>False) w wr)
   case atStart=>exact⟨0,Nat.zero_le _,rfl,rfl,by rw[HA.out.2.2];exact HRW.out,HR2.out.1,HR2.out.2⟩
   obtain⟨j,hj,rfl,rfl,hrw,hr2,hch⟩:=hrel;by_cases hjl:j<4
   · have hjz:(j:Int)<4:=by omega
     have c1:=hch.cell (HBY.out (4*k+j) (by omega)) id;have hp:Ec bs k (j+1)=wa (Ec bs k j <<< 8) (bs.getD (4*k+j) 0).toUInt32:=rfl;have c2:=AG hrw (i:=k) (v:=wv (Ec bs k j)) (by rw[Array.getElem?_setIfInBounds_self_of_lt (by rw[HA.out.1];omega)]);generalize bs.getD (4*k+j) 0=x at c1 hp;generalize Ec bs k j=p at c2 hp hrw;have f2:=Ao hrw k;have l2:=Ad hrw;have HRW2:=Lib.hid hrw;have HR3:=(hIq hr2 hch)
     have HP:=Lib.hid hp;have i0:0≤(k:Int):=by omega
     have i1:(k:Int)<64:=by omega
     have i2:(k:Int).toNat=k:=by omega
     have j0:0≤4*(k:Int)+(j:Int):=by omega
     have j1:4*(k:Int)+(j:Int)<64:=by omega
     have j2:(4*(k:Int)+(j:Int)).toNat=4*k+j:=by omega
     have w1:IntKind.i64.wrap (4*(k:Int))=4*k:=IntWalk.i64_in _ (by omega);have w2:IntKind.i64.wrap (4*(k:Int)+(j:Int))=4*k+j:=IntWalk.i64_in _ (by omega);clear hrw hr2 hch hp;go_wp2;go_still_tail 14,(by kernel_rfl)
     show wpList _ _ _ _ _ wr.drew
     go_wp2;go_roundg (4-(j+1))
     case measure=>omega
     refine⟨j+1,by omega,rfl,by go_num,?_,AQ (Ak HR3.out.1 (by simp only[ne_eq];omega) _),(HR3.out.2.setCell (p:=⟨w.heap.size+1,k,none⟩) (.inr (by simp only;omega)) _).drew⟩;rw[Rz];refine AQ ?_;have:=Aa HRW2.out k (wv (wa (p <<< 8) x.toUInt32));rw[Array.setIfInBounds_setIfInBounds] at this;rw[HP.out];exact this
   obtain rfl:j=4:=by omega
   have hjz:¬((4:Nat):Int)<4:=by omega
   have HB:=(hIq hrw (aIq hr2 hch))
   clear hrw hr2 hch;go_wp2;go_roundg (16-(k+1))
   case measure=>omega
   exact⟨k+1,by omega,rfl,by go_num,by rw[←HA.out.2.1];exact HB.out.1,HB.out.2.1,HB.out.2.2⟩
 obtain rfl:k=16:=by omega
 obtain⟨wo,hwo⟩:∃wo:World,wo=wr:=⟨_,rfl⟩
 subst hwo;have hkl':¬((16:Nat):Int)<16:=by omega
 have HRW:=Lib.hid hrw;have HCR:=Lib.hid hr2;have HCH:=Lib.hid hch;clear hrw hr2 hch hkl;go_wp2
 go_loopg [6,7,8,9,10] 48 (fun gg s6 s7 s8 s9 s10 wr=>∃n:Nat,n≤48∧gg=48-n∧s6=.int .i64 (16+n)∧wr.heap[w.heap.size+1]?=some (.cells (BQ (Ct (Sha.ext (Sha.w16 bs 16) n))) 382 (0,0)) ∧
  wr.heap[w.heap.size]?=some (.cells Z 382 (0,0))∧Ch (fun _=>False) w wr)
 case atStart=>exact⟨0,Nat.zero_le _,rfl,rfl,HRW.out,HCR.out,HCH.out⟩
 obtain⟨n,hn,rfl,rfl,hrw,hr2,hch⟩:=hrel;by_cases hnl:n<48
 · have hl:(Sha.ext (Sha.w16 bs 16) n).length=16+n:=by rw[Sha.GL,Sha.DW]
   have hg:∀d:Nat,0<d→d≤16→wr.cell? ⟨w.heap.size+1,16+n-d,none⟩=some (wv ((Sha.ext (Sha.w16 bs 16) n).getD ((Sha.ext (Sha.w16 bs 16) n).length-d) 0)):=fun d h0 h1=>by
    have:=AG hrw (LM (l:=Sha.ext (Sha.w16 bs 16) n) (i:=(Sha.ext (Sha.w16 bs 16) n).length-d) (by omega));rw[hl] at this ⊢;exact this
   have c2:=hg 2 (by omega) (by omega);have c7:=hg 7 (by omega) (by omega);have c15:=hg 15 (by omega) (by omega);have c16:=hg 16 (by omega) (by omega);rw[show 16+n-16=n by omega] at c16;obtain⟨L,hL⟩:∃L,L=Sha.ext (Sha.w16 bs 16) n:=⟨_,rfl⟩
   have hne:Sha.next L=((Sha.Qy (L.getD (L.length-2) 0)+L.getD (L.length-7) 0)+Sha.Qw (L.getD (L.length-15) 0))+L.getD (L.length-16) 0:=rfl
   have hex:Sha.ext (Sha.w16 bs 16) (n+1)=L ++ [Sha.next L]:=by rw[hL];rfl
   rw[←hL] at c2 c7 c15 c16 hl hrw;generalize L.getD (L.length-2) 0=x2 at c2 hne;generalize L.getD (L.length-7) 0=x7 at c7 hne;generalize L.getD (L.length-15) 0=x15 at c15 hne;generalize L.getD (L.length-16) 0=x16 at c16 hne;obtain⟨old,hold⟩:=Hx (l:=L) (by omega) (i:=16+n) (by omega);have co:=AG hrw hold;have cf:=Ao hrw (16+n);have cl:=Ad hrw;have hn1:(n:Int)≤47:=by omega
   have hn2:n≤47:=by omega
   have hn3:16+(n:Int)<64:=by omega
   have HNE:=Lib.hid hne;have HEX:=Lib.hid hex;have HL:=Lib.hid hl;have HRW2:=Lib.hid hrw;have HR2:=Lib.hid hr2;have HC2:=Lib.hid hch;clear hg hne hex hold hl hrw hr2 hch hL;have n2:0≤16+(n:Int)-2:=by omega
   have m2:2≤16+(n:Int):=by omega
   have p2:16+(n:Int)-2<64:=by omega
   have q2:(16+(n:Int)-2).toNat=16+n-2:=by omega
   have w2:IntKind.i64.wrap (16+(n:Int)-2)=16+n-2:=IntWalk.i64_in _ (by omega);have n7:0≤16+(n:Int)-7:=by omega
   have m7:7≤16+(n:Int):=by omega
   have p7:16+(n:Int)-7<64:=by omega
   have q7:(16+(n:Int)-7).toNat=16+n-7:=by omega
   have w7:IntKind.i64.wrap (16+(n:Int)-7)=16+n-7:=IntWalk.i64_in _ (by omega);have n15:0≤16+(n:Int)-15:=by omega
   have m15:15≤16+(n:Int):=by omega
   have p15:16+(n:Int)-15<64:=by omega
   have q15:(16+(n:Int)-15).toNat=16+n-15:=by omega
   have w15:IntKind.i64.wrap (16+(n:Int)-15)=16+n-15:=IntWalk.i64_in _ (by omega);have n16:0≤16+(n:Int)-16:=by omega
   have m16:16≤16+(n:Int):=by omega
   have p16:16+(n:Int)-16<64:=by omega
   have q16:(16+(n:Int)-16).toNat=n:=by omega
   have w16:IntKind.i64.wrap (16+(n:Int)-16)=16+n-16:=IntWalk.i64_in _ (by omega);have n0:0≤16+(n:Int):=by omega
   have q0:(16+(n:Int)).toNat=16+n:=by omega
   go_wp2_with fail;refine(V3 x15 _).mono ?_;rintro e v1 ⟨rfl,rfl⟩;go_wp2_with fail;refine(Ue x15 _).mono ?_;rintro e v2 ⟨rfl,rfl⟩;go_wp2_with fail;refine(TM x2 _).mono ?_;rintro e v3 ⟨rfl,rfl⟩;go_wp2_with fail;refine(TT x2 _).mono ?_;rintro e v4 ⟨rfl,rfl⟩;go_wp2;obtain⟨wq,hwq⟩:∃wq,wq=wr.drew.drew.drew.drew:=⟨_,rfl⟩
   rw[←hwq];have e7:wq.cell? ⟨w.heap.size+1,16+n-7,none⟩=some (wv x7):=by subst hwq;exact c7
   have e16:wq.cell? ⟨w.heap.size+1,n,none⟩=some (wv x16):=by subst hwq;exact c16
   have eo:wq.cell? ⟨w.heap.size+1,16+n,none⟩=some old:=by subst hwq;exact co
   have ef:wq.frozen? ⟨w.heap.size+1,16+n,none⟩=false:=by subst hwq;exact cf
   have el:w.heap.size+1<wq.heap.size:=by subst hwq;exact cl
   have HWQ:=Lib.hid hwq;clear hwq c2 c7 c15 c16 co cf cl;go_still_tail 14,(by kernel_rfl)
   show wpList _ _ _ _ _ wq.drew
   go_wp2;go_roundg (48-(n+1))
   case measure=>omega
   clear n2 m2 p2 q2 w2 n7 m7 p7 q7 w7 n15 m15 p15 q15 w15 n16 m16 p16 q16 w16 q0;have hq:Ch (fun _=>False) w wq:=by rw[HWQ.out];exact HC2.out.drew.drew.drew.drew
   have hr:wq.heap[w.heap.size+1]?=some (.cells (BQ (Ct L)) 382 (0,0)):=by rw[HWQ.out];exact HRW2.out
   have hr2:wq.heap[w.heap.size]?=some (.cells Z 382 (0,0)):=by rw[HWQ.out];exact HR2.out
   refine⟨n+1,by omega,rfl,by go_num,?_,AQ (Ak hr2 (by simp only[ne_eq];omega) _),(hq.setCell (p:=⟨w.heap.size+1,16+n,none⟩) (.inr (by simp only;omega)) _).drew⟩;refine AQ ?_;rw[X2,Xh,YZ];have:=Aa hr (16+n) (wv (Sha.next L));rw[HNE.out, ←HL.out] at this;rw[HEX.out,HNE.out, ←Ha (by rw[HL.out];omega), ←HL.out];exact this
 obtain rfl:n=48:=by omega
 have hnz:¬(16:Int)+((48:Nat):Int)<64:=by omega
 have hsc:Sha.ext (Sha.w16 bs 16) 48=Sha.sched bs:=rfl;rw[hsc,KO (Sha.Ck bs)] at hrw;obtain⟨S,hS⟩:∃S,S=BQ (Sha.sched bs):=⟨_,rfl⟩
 have hSs:S.size=64:=by rw[hS,Bf,Sha.Ck]
 have hS1:∀v∈S.toList,v.oneCell'=true:=by rw[hS];exact CF _
 rw[←hS] at hrw;have HS:=(hIq hSs (aIq hS1 hS))
 have HB:=(hIq hrw (aIq hr2 hch))
 clear hrw hr2 hch hS hSs hS1 hsc hnl
 go_wp2_with (first
  | fail
  | ((with_reducible show zOq (.load 382 _));refine AK rfl 382 _ rfl (w.heap.size+1) 0 rfl HB.out.1 Tryz.underlying382 rfl Df (by rw[HS.out.1];omega) S (by simp[←HS.out.1]) ?_)
  | ((with_reducible show zOq (.store 382 _ _));refine AE rfl 382 _ _ rfl w.heap.size 0 S rfl rfl HB.out.2.1 (by rw[Df,HS.out.1]) (by rw[HS.out.1,Z0.out.2.2];omega) HS.out.2.1 S (by rw[AI _ _ (by rw[Array.length_toList,Array.length_toList,HS.out.1,Z0.out.2.2])]) ?_))
 exact AN (p:=2) rfl rfl (AF HB.out.2.1 _) Tryz.underlying382 rfl (by rw[Df,HS.out.1]) rfl ⟨by rw[HS.out.2.2],HB.out.2.2.setRow (.inr (Nat.le_refl _)) _⟩
end Go.Proofs.YtooijgcildbnlaaGreat.ShaW

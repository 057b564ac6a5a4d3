/- Laws of the layers below. -/
import Derived.Test.YtooijgcildbnlaaGreatQg32
set_option maxHeartbeats 3200000
set_option maxRecDepth 100000
set_option linter.unusedVariables false
namespace Go.Proofs.YtooijgcildbnlaaGreat.Store
open Go.RowKit Go.Proofs.YtooijgcildbnlaaGreat.ShaW Go.Proofs.YtooijgcildbnlaaGreat.Path Go.Proofs.YtooijgcildbnlaaGreat.CI
def YD (root:Int) (A:List (Int×Bi)):List Int:=Ot A++(if root=0 then [] else [root])
structure YI (σ:AD Nd) (R:List Int):Prop where
 says:YW σ R
 chk:∀l:List Int,l.Sublist R→Store.chk σ l=0
 each:∀r∈R,∃t,Rep (sk σ) r 0 t∧An σ r=0∧t.leaves≤4096

end Go.Proofs.YtooijgcildbnlaaGreat.Store
namespace Go.Proofs.YtooijgcildbnlaaGreat.Path
open Go.RowKit Go.Proofs.YtooijgcildbnlaaGreat.Store
def clr (x:UInt8) (j:Nat):UInt8:=UInt8.ofNat (x.toNat-CP x j*2 ^ (7-j))
theorem T0:∀(x:Fin 256) (j i:Fin 8),(x.val-x.val / 2 ^ (7-j.val) % 2*2 ^ (7-j.val)) / 2 ^ (7-i.val) % 2=if i.val=j.val then 0 else x.val / 2 ^ (7-i.val) % 2:=by decide +kernel
theorem Qg (x:UInt8) (j:Nat):(clr x j).toNat=x.toNat-CP x j*2 ^ (7-j):=by
 unfold clr;rw[UInt8.toNat_ofNat'];exact Nat.mod_eq_of_lt (Nat.lt_of_le_of_lt (Nat.sub_le _ _) x.toNat_lt)
theorem VQ (x:UInt8) {i j:Nat} (hi:i<8) (hj:j<8):CP (clr x j) i=if i=j then 0 else CP x i:=by
 have:=T0 ⟨x.toNat,x.toNat_lt⟩ ⟨j,hj⟩ ⟨i,hi⟩;simp only at this;unfold CP;rw[Qg];exact this
def ME (k:List UInt8) (d:Nat):List UInt8:=k.set (d / 8) (clr (k.getD (d / 8) 0) (d % 8))
theorem JS (k:List UInt8) (d:Nat):(ME k d).length=k.length:=List.length_set
theorem TF {k:List UInt8} (hk:k.length=32) {d j:Nat} (hd:d<256) (hj:j<256):BE (ME k d) j=if j=d then 0 else BE k j:=by
 unfold ME BE;have e8:d % 8<8:=Nat.mod_lt _ (by decide);have e9:j % 8<8:=Nat.mod_lt _ (by decide);by_cases h:j / 8=d / 8
 · rw[h]
   have hg:(k.set (d / 8) (clr (k.getD (d / 8) 0) (d % 8))).getD (d / 8) 0=clr (k.getD (d / 8) 0) (d % 8):=by
    rw[List.getD_eq_getElem?_getD,List.getElem?_set_self (by omega)];rfl
   rw[hg,VQ _ e9 e8];by_cases e:j=d
   · subst e;simp
   rw[if_neg e,if_neg (by omega)]
 have hg:(k.set (d / 8) (clr (k.getD (d / 8) 0) (d % 8))).getD (j / 8) 0=k.getD (j / 8) 0:=by
  rw[List.getD_eq_getElem?_getD,List.getElem?_set_ne (Ne.symm h), ←List.getD_eq_getElem?_getD]
 rw[hg,if_neg (fun e=>h (by rw[e]))]
theorem RN:∀(x:Fin 256) (k i:Fin 8),0<k.val→k.val≤i.val→x.val / 2 ^ (8-k.val)*2 ^ (8-k.val) / 2 ^ (7-i.val) % 2=0:=by decide +kernel
theorem Ht {k:List UInt8} (hk:k.length=32) {d j:Nat} (hj:j<256) (h:d≤j):BE (Path.first k d) j=0:=by
 unfold BE;obtain⟨x,hx⟩:∃x,k[j / 8]?=some x:=⟨_,List.getElem?_eq_getElem (by omega)⟩
 have h1:=EE (d:Int) 0 k (j / 8) x hx;have h2:(Path.first k (d:Int))[j / 8]?=some (kept x ((d:Int)-8*(0+(j / 8:Nat)))):=h1;simp only[List.getD_eq_getElem?_getD,h2,Option.getD_some];have e9:j % 8<8:=Nat.mod_lt _ (by decide);unfold kept;by_cases c0:(d:Int)-8*(0+(j / 8:Nat))≤0
 · rw[if_pos c0];unfold CP;simp
 rw[if_neg c0,if_pos (by omega)];obtain⟨m,hm⟩:∃m:Nat,(d:Int)-8*(0+(j / 8:Nat))=(m:Int):=⟨((d:Int)-8*(0+(j / 8:Nat))).toNat,by omega⟩
 rw[hm,Int.toNat_natCast];have:=RN ⟨x.toNat,x.toNat_lt⟩ ⟨m,by omega⟩ ⟨j % 8,e9⟩ (by simp only;omega) (by simp only;omega);simp only at this;unfold CP;rw[UInt8.toNat_ofNat',Nat.mod_eq_of_lt (Nat.lt_of_le_of_lt (Nat.div_mul_le_self _ _) x.toNat_lt)];exact this
def Fj (k:List UInt8) (d:Nat):Nat→List UInt8
 | 0=>k
 | n+1=>ME (Fj k d n) (d+n)
theorem Di (k:List UInt8) (d:Nat):∀n,(Fj k d n).length=k.length
 | 0=>rfl
 | n+1=>by rw[Fj,JS,Di k d n]
theorem Lg {k:List UInt8} (hk:k.length=32) {d j:Nat} (hj:j<256):∀n,d+n≤256→BE (Fj k d n) j=if d≤j∧j<d+n then 0 else BE k j
 | 0,_=>by rw[Fj,if_neg (by omega)]
 | n+1,h=>by
  rw[Fj,TF (by rw[Di];exact hk) (by omega) hj,Lg hk hj n (by omega)];by_cases e:j=d+n
  · rw[if_pos e,if_pos (by omega)]
  rw[if_neg e];by_cases c:d≤j∧j<d+n
  · rw[if_pos c,if_pos (by omega)]
  rw[if_neg c,if_neg (by omega)]
theorem Ns {k:List UInt8} (hk:k.length=32) {d:Nat} (hd:d≤256):Fj k d (256-d)=Path.first k d:=by
 refine Ml (by rw[Di];exact hk) (by rw[Bn];exact hk) (fun j hj=>?_);rw[Lg hk hj _ (by omega)];by_cases c:d≤j
 · rw[if_pos ⟨c,by omega⟩,Ht hk hj c]
 rw[if_neg (fun h=>c h.1),JJ k d j (by omega)]
theorem MQ:(Tryz.prog.info? 23).bind (·.zero)=some (.agg (AJ (List.replicate 32 0))):=by kernel_rfl
theorem QG (k:List UInt8) (hk:k.length=32) (d:Nat) (hd:d<256) (w:World):Calls Tryz.prog 300 #[.agg (AJ k),.int .i64 (d:Int),.int .i64 0] w fun e w'=>e=.returned (.agg (AJ (ME k d)))∧Ch (fun _=>False) w w':=by
 have hx:=DN (l:=k) (i:=d / 8) (by omega);have hkb:BE k d=CP (k.getD (d / 8) 0) (d % 8):=rfl;have hbit:=fun w1=>Io k hk d hd w1
 have hset:(AJ k).setIfInBounds (d / 8) (bv (clr (k.getD (d / 8) 0) (d % 8)))=AJ (ME k d):=by
  apply Array.ext';simp[AJ,ME,List.map_set]
 have hcn:=Qg (k.getD (d / 8) 0) (d % 8);have hcl:=(clr (k.getD (d / 8) 0) (d % 8)).toNat_lt;have hcx:=(k.getD (d / 8) 0).toNat_lt;have hk2:=IC k d;rw[←hkb] at hcn
 have hle:BE k d*2 ^ (7-d % 8)≤(k.getD (d / 8) 0).toNat:=by
  rw[hkb];unfold CP;have h1:=Nat.div_add_mod ((k.getD (d / 8) 0).toNat / 2 ^ (7-d % 8)) 2;have h2:(k.getD (d / 8) 0).toNat / 2 ^ (7-d % 8) % 2≤(k.getD (d / 8) 0).toNat / 2 ^ (7-d % 8):=Nat.mod_le _ _;exact Nat.le_trans (Nat.mul_le_mul_right _ h2) (Nat.div_mul_le_self _ _)
 have hbv:bv (clr (k.getD (d / 8) 0) (d % 8))=.int .u8 ((clr (k.getD (d / 8) 0) (d % 8)).toNat:Int):=rfl;generalize k.getD (d / 8) 0=x at *;obtain⟨y,hy⟩:∃y,y=clr x (d % 8):=⟨_,rfl⟩
 rw[←hy] at hset hcn hcl hbv;obtain⟨kb,hkk⟩:∃kb,kb=BE k d:=⟨_,rfl⟩
 rw[←hkk] at hcn hk2 hle hbit;obtain⟨W,hW⟩:∃W,W=2 ^ (7-d % 8):=⟨_,rfl⟩
 rw[←hW] at hcn hle
 have hW128:W≤128:=by
  rw[hW];exact Nat.pow_le_pow_right (by decide) (show 7-d % 8≤7 by omega)
 obtain⟨K,hK⟩:∃K,K=AJ k:=⟨_,rfl⟩
 obtain⟨K2,hK2⟩:∃K2,K2=AJ (ME k d):=⟨_,rfl⟩
 have hKs:K.size=32:=by rw[hK,AY,hk]
 have hK2s:K2.size=32∧∀v∈K2.toList,v.oneCell'=true:=by rw[hK2];exact⟨by rw[AY,JS,hk],fun v hv=>by simp[AJ] at hv;obtain⟨_,_,rfl⟩:=hv;rfl⟩
 rw[←hK, ←hK2] at hset;rw[←hK] at hx hbit ⊢;rw[←hK2];obtain⟨Z,hZ⟩:∃Z,Z=AJ (List.replicate 32 0):=⟨_,rfl⟩
 have hz:=MQ;rw[←hZ] at hz;have hZs:Z.size=32:=by rw[hZ];rfl
 obtain⟨s1,hs1⟩:∃s1:Int,s1=0-(kb:Int):=⟨_,rfl⟩
 obtain⟨s2,hs2⟩:∃s2:Int,s2=s1*(W:Int):=⟨_,rfl⟩
 have hs2v:s2 = - ((kb*W:Nat):Int):=by rw[hs2,hs1];push_cast;rw[Int.zero_sub,Int.neg_mul]
 obtain⟨xn,hxn⟩:∃xn,xn=x.toNat:=⟨_,rfl⟩
 obtain⟨yn,hyn⟩:∃yn,yn=y.toNat:=⟨_,rfl⟩
 rw[←hyn] at hcn hcl hbv;rw[←hxn] at hcn hle hcx;have hs3:(xn:Int)+s2=(yn:Int):=by rw[hs2v];omega
 have hw1:IntKind.i64.wrap (0-(kb:Int))=s1:=by rw[←hs1];exact IntWalk.i64_in _ (by omega)
 have hkW:kb*W≤255:=by omega
 have hw2:IntKind.i64.wrap (s1*(W:Int))=s2:=by rw[←hs2];exact IntWalk.i64_in _ (by omega)
 have hw3:IntKind.i64.wrap ((xn:Int)+s2)=(yn:Int):=by rw[hs3];exact IntWalk.i64_in _ (by omega)
 have hxb:bv x=.int .u8 (xn:Int):=by rw[hxn]
 rw[hxb] at hx;rw[hbv] at hset;have hyi:(yn:Int)<256:=by omega
 have hxi:(xn:Int)<256:=by omega
 have hw1':IntKind.i64.wrap (-(kb:Int))=s1:=by rw[←hw1,Int.zero_sub]
 have hwd:IntKind.i64.wrap ((d:Int) / 8)=(d:Int) / 8:=IntWalk.i64_in _ (by omega);have n1:(0:Int)≤(d:Int) / 8:=by omega
 have n2:(d:Int) / 8<32:=by omega
 have n3:((d:Int) / 8).toNat=d / 8:=by omega
 have n4:d / 8<32:=by omega
 have HZ:=(hIq hz hZs)
 have HK:=(hIq hKs (aIq hK2s (aIq hset hx)))
 have HB:=Lib.hid hbit;have HP:=Lib.hid hW;clear hkb hset hcn hcl hcx hk2 hle hbv hkk hK hK2 hKs hK2s hx hbit hz hZs hZ hs1 hs2 hs2v hxn hyn hs3 hy hxb hW;go_enter Tryz.func300,Tryz.ntmps300
 go_wp2_with (first
  | fail
  | ((with_reducible show zOq (.alloc 23));refine AH rfl 23 rfl (.agg Z) HZ.out.1 ?_;dsimp only[Value.cells];try simp only[World.size_alloc]))
 go_loopg [7,8] (7-d % 8) (fun g s7 s8 wr=>∃i y:Nat,i≤7-d % 8∧g=7-d % 8-i∧s7=.int .i64 (y:Int)∧s8=.int .i64 (i:Int)∧y=2 ^ i∧y≤128∧wr.heap[w.heap.size]?=some (.cells K 23 (0,0))∧wr.heap[w.heap.size+1]?=some (.cells Z 23 (0,0))∧Ch (fun _=>False) w wr)
 case atStart =>
  refine⟨0,1,Nat.zero_le _,rfl,rfl,rfl,rfl,by omega,AM (heap_alloc_new _ _) _,?_,((Ch.refl _ _).alloc _).alloc _⟩;have:=heap_alloc_new (w.alloc (.cells K 23)) (.cells Z 23);simpa using this
 obtain⟨i,y,hi,rfl,rfl,rfl,hy,hy2,hr0,hr1,hch⟩:=hrel;have HY:=(hIq hy (aIq hr0 (aIq hr1 hch)))
 clear hy hr0 hr1 hch;have e8:d % 8<8:=Nat.mod_lt _ (by decide);by_cases hlt:i<7-d % 8
 · have p1:decide ((i:Int)<7-(d:Int) % 8)=true:=decide_eq_true (by omega)
   have p2:(i:Int)<7-(d:Int) % 8:=by omega
   have hy64:y≤64:=by
    rw[HY.out.1];exact Nat.pow_le_pow_right (show 0<2 by decide) (show i≤6 by omega)
   have hwy:IntKind.i64.wrap (2*(y:Int))=2*(y:Int):=IntWalk.i64_in _ (by omega);go_wp2;go_roundg (7-d % 8-(i+1))
   case measure=>omega
   exact⟨i+1,2*y,by omega,rfl,by push_cast;rfl,by go_num,by rw[HY.out.1,Nat.pow_succ,Nat.mul_comm],by omega,HY.out.2.1,HY.out.2.2.1,HY.out.2.2.2⟩
 have p1:decide ((i:Int)<7-(d:Int) % 8)=false:=decide_eq_false (by omega);have p2:¬(i:Int)<7-(d:Int) % 8:=by omega
 have hie:i=7-d % 8:=by omega
 have hyW:y=W:=by rw[HY.out.1,HP.out,hie]
 subst hyW;clear hy2 hi hlt hie;have hwx:IntKind.i64.wrap (xn:Int)=(xn:Int):=IntWalk.i64_in _ (by omega);go_upto_region 6 with fail;refine AS (fun wz=>wz.heap[w.heap.size]?=some (.cells K 23 (0,0))) 13 [(0,false),(1,false),(2,false),(3,false),(4,false),(5,false),(6,false),(7,false),(10,false),(8,true),(9,false),(11,false),(12,false)] (by kernel_rfl) (by kernel_rfl) ?_ ?_
 · exact AQ HY.out.2.1
 iterate 2
  refine plan_look rfl rfl (fun w0 hS=>(by clear hS;go_simp;try rfl)) ?_;simp only[Act.put,nAq,nBq,nCq]
 refine plan_look (v:=.pointer (some ⟨w.heap.size,d / 8,none⟩)) rfl rfl (fun w0 hS=>(by clear hS;go_simp;try rfl)) ?_;simp only[Act.put,nAq,nBq,nCq];refine plan_look (v:=.int .u8 (xn:Int)) rfl rfl (fun w0 hS=>(by have c1:=AG hS HK.out.2.2.2;clear hS;go_simp;try rfl)) ?_;simp only[Act.put,nAq,nBq,nCq];refine plan_look (v:=.int .i64 (xn:Int)) rfl rfl (fun w0 hS=>(by clear hS;go_simp;try simp[hwx])) ?_;simp only[Act.put,nAq,nBq,nCq];refine plan_look rfl rfl (fun w0 hS=>(by clear hS;go_simp;try rfl)) ?_;simp only[Act.put,nAq,nBq,nCq];refine BF (cur:=K) (t:=23) (fr:=(0,0)) rfl rfl 23 (.tmp 3) rfl w.heap.size 0 32 rfl (fun w0 hS=>hS) Tryz.underlying23 rfl Cc (by rw[HK.out.1];omega) K (by simp[←HK.out.1]) ?_;simp only[Act.put,nAq,nBq,nCq]
 iterate 2
  refine plan_look rfl rfl (fun w0 hS=>(by clear hS;go_simp;try rfl)) ?_;simp only[Act.put,nAq,nBq,nCq]
 refine Ah rfl ?_;go_wp2_with fail;refine(HB.out _).mono ?_;rintro e w3 ⟨rfl,a3⟩;have H3:=(hIq (a3.row (AQ HY.out.2.1) id) (aIq (a3.row (AQ HY.out.2.2.1) id) (HY.out.2.2.2.drew.trans a3 (fun _=>fEq))))
 clear a3;dsimp only;go_step;refine wpList_nil ?_;change _∧_;refine⟨H3.out.1,?_⟩;refine plan_look (v:=.int .i64 s1) rfl rfl (fun w0 hS=>(by clear hS;go_simp;try simp[hw1,hw1'])) ?_;simp only[Act.put,nAq,nBq,nCq];refine plan_look (v:=.int .i64 s2) rfl rfl (fun w0 hS=>(by clear hS;go_simp;try simp[hw2])) ?_;simp only[Act.put,nAq,nBq,nCq];refine plan_look (v:=.int .i64 (yn:Int)) rfl rfl (fun w0 hS=>(by clear hS;go_simp;try simp[hw3])) ?_;simp only[Act.put,nAq,nBq,nCq];refine Ae ?_;simp only[List.drop_succ_cons,List.drop_zero];go_wp2;refine NoPanic.normal ?_;have c1:=AG H3.out.1 HK.out.2.2.2;have f1:=Ao H3.out.1 (d / 8);have l1:=Ad H3.out.1;have hset:=Aa H3.out.1 (d / 8) (.int .u8 (yn:Int));rw[HK.out.2.2.1] at hset;have hz2:=Ak (p:=⟨w.heap.size,d / 8,none⟩) H3.out.2.1 (by show w.heap.size+1≠w.heap.size;omega) (.int .u8 (yn:Int));have H4:=(hIq hset (aIq hz2 (H3.out.2.2.setCell (p:=⟨w.heap.size,d / 8,none⟩) (.inr (Nat.le_refl _)) (.int .u8 (yn:Int)))))
 clear hset hz2
 go_wp2_with (first
  | fail
  | ((with_reducible show zOq (.load 23 _));refine AK rfl 23 _ rfl w.heap.size 0 rfl H4.out.1 Tryz.underlying23 rfl Cc (by rw[HK.out.2.1.1];omega) K2 (by simp[←HK.out.2.1.1]) ?_)
  | ((with_reducible show zOq (.store 23 _ _));refine AE rfl 23 _ _ rfl (w.heap.size+1) 0 K2 rfl rfl H4.out.2.1 (by rw[Cc,HK.out.2.1.1]) (by rw[HK.out.2.1.1,HZ.out.2];omega) HK.out.2.1.2 K2 (by rw[AI _ _ (by rw[Array.length_toList,Array.length_toList,HK.out.2.1.1,HZ.out.2])]) ?_))
 exact AN (p:=6) rfl rfl (AF H4.out.2.1 _) Tryz.underlying23 rfl (by rw[Cc,HK.out.2.1.1]) rfl ⟨rfl,H4.out.2.2.setRow (.inr (Nat.le_succ _)) _⟩
theorem Fs (k:List UInt8):∀v∈(AJ k).toList,v.oneCell'=true:=fun v hv=>by simp[AJ] at hv;obtain⟨_,_,rfl⟩:=hv;rfl
theorem Rc (k:List UInt8) (hk:k.length=32) (d:Nat) (hd:d≤256) (w:World):Calls Tryz.prog 284 #[.agg (AJ k),.int .i64 (d:Int),.int .i64 0] w fun e w'=>e=.returned (.tuple #[.agg (AJ (Path.first k d)),.int .i64 0])∧Ch (fun _=>False) w w':=by
 have hff:=Ns hk hd;obtain⟨K,hK⟩:∃K,K=AJ k:=⟨_,rfl⟩
 rw[←hff, ←hK];obtain⟨Z,hZ⟩:∃Z,Z=AJ (List.replicate 32 0):=⟨_,rfl⟩
 have hz:=MQ;rw[←hZ] at hz;have hZs:Z.size=32:=by rw[hZ];rfl
 have HZ:=(hIq hz hZs)
 have HK:=Lib.hid hK;have h0:decide ((d:Int)<0)=false:=decide_eq_false (by omega);have h1:decide (256<(d:Int))=false:=decide_eq_false (by omega);clear hff hK hz hZs hZ;go_enter Tryz.func284,Tryz.ntmps284
 go_wp2_with (first
  | fail
  | ((with_reducible show zOq (.alloc 23));refine AH rfl 23 rfl (.agg Z) HZ.out.1 ?_;dsimp only[Value.cells];try simp only[World.size_alloc]))
 go_loopg [8] (256-d) (fun g s8 wr=>∃n:Nat,n≤256-d∧g=256-d-n∧s8=.int .i64 ((d:Int)+n)∧wr.heap[w.heap.size]?=some (.cells (AJ (Fj k d n)) 23 (0,0))∧wr.heap[w.heap.size+1]?=some (.cells Z 23 (0,0))∧Ch (fun _=>False) w wr)
 case atStart =>
  refine⟨0,Nat.zero_le _,rfl,by simp,?_,?_,((Ch.refl _ _).alloc _).alloc _⟩
  · show _=some (Obj.cells (AJ k) _ _)
    rw[←HK.out];exact AM (heap_alloc_new _ _) _
  have:=heap_alloc_new (w.alloc (.cells K 23)) (.cells Z 23);simpa using this
 obtain⟨n,hn,rfl,rfl,hr0,hr1,hch⟩:=hrel;obtain⟨C,hC⟩:∃C,C=AJ (Fj k d n):=⟨_,rfl⟩
 have hfl:(Fj k d n).length=32:=by rw[Di];exact hk
 have hCs:C.size=32:=by rw[hC,AY,hfl]
 by_cases hlt:n<256-d
 · have hs:=fun w1=>QG (Fj k d n) hfl (d+n) (by omega) w1
   obtain⟨D,hD⟩:∃D,D=AJ (Fj k d (n+1)):=⟨_,rfl⟩
   have hDs:D.size=32∧∀v∈D.toList,v.oneCell'=true:=by rw[hD];exact⟨by rw[AY,Di,hk],Fs _⟩
   rw[show AJ (ME (Fj k d n) (d+n))=D by rw[hD];rfl, ←hC] at hs;rw[←hC] at hr0;obtain⟨i,hi⟩:∃i,i=d+n:=⟨_,rfl⟩
   have hii:(d:Int)+(n:Int)=(i:Int):=by omega
   rw[←hi] at hs;rw[hii];have p1:(i:Int)<256:=by omega
   have HS:=Lib.hid hs;have HC:=(hIq hCs (aIq hDs (aIq hD hii)))
   have HR:=(hIq hr0 (aIq hr1 hch))
   clear hs hC hD hDs hCs hr0 hr1 hch hi hii hfl
   go_wp2_with (first
    | fail
    | ((with_reducible show zOq (.load 23 _));refine AK rfl 23 _ rfl w.heap.size 0 rfl HR.out.1 Tryz.underlying23 rfl Cc (by rw[HC.out.1];omega) C (by simp[←HC.out.1]) ?_))
   refine(HS.out _).mono ?_;rintro e w3 ⟨rfl,a3⟩;have H3:=(hIq (a3.row HR.out.1 id) (aIq (a3.row HR.out.2.1 id) (HR.out.2.2.trans a3 (fun _=>fEq))))
   clear a3
   go_wp2_with (first
    | fail
    | ((with_reducible show zOq (.store 23 _ _));refine AE rfl 23 _ _ rfl w.heap.size 0 D rfl rfl H3.out.1 (by rw[Cc,HC.out.2.1.1]) (by rw[HC.out.2.1.1,HC.out.1];omega) HC.out.2.1.2 D (by rw[AI _ _ (by rw[Array.length_toList,Array.length_toList,HC.out.2.1.1,HC.out.1])]) ?_))
   go_roundg (256-d-(n+1))
   case measure=>omega
   refine⟨n+1,by omega,rfl,by have:=HC.out.2.2.2;push_cast;first|(congr 1;omega)|omega,?_,row_setRow H3.out.2.1 (by omega) _,H3.out.2.2.setRow (.inr (Nat.le_refl _)) _⟩;rw[←HC.out.2.2.1];exact AF H3.out.1 _
 obtain rfl:n=256-d:=by omega
 have hii:(d:Int)+((256-d:Nat):Int)=256:=by omega
 rw[hii];rw[←hC] at hr0;have hone:∀v∈C.toList,v.oneCell'=true:=by rw[hC];exact Fs _
 have HCE:=Lib.hid hC;have HC:=(hIq hCs hone)
 have HR:=(hIq hr0 (aIq hr1 hch))
 clear hC hCs hone hr0 hr1 hch hii hfl hlt hn
 go_wp2_with (first
  | fail
  | ((with_reducible show zOq (.load 23 _));refine AK rfl 23 _ rfl w.heap.size 0 rfl HR.out.1 Tryz.underlying23 rfl Cc (by rw[HC.out.1];omega) C (by simp[←HC.out.1]) ?_)
  | ((with_reducible show zOq (.store 23 _ _));refine AE rfl 23 _ _ rfl (w.heap.size+1) 0 C rfl rfl HR.out.2.1 (by rw[Cc,HC.out.1]) (by rw[HC.out.1,HZ.out.2];omega) HC.out.2 C (by rw[AI _ _ (by rw[Array.length_toList,Array.length_toList,HC.out.1,HZ.out.2])]) ?_))
 exact Aw (p:=6) (u:=7) rfl rfl (AF HR.out.2.1 _) Tryz.underlying23 rfl (by rw[Cc,HC.out.1]) rfl ⟨by rw[HCE.out];rfl,HR.out.2.2.setRow (.inr (Nat.le_succ _)) _⟩
end Go.Proofs.YtooijgcildbnlaaGreat.Path
namespace Go.Proofs.YtooijgcildbnlaaGreat.Store
open Go.RowKit Go.Proofs.YtooijgcildbnlaaGreat.ShaW Go.Proofs.YtooijgcildbnlaaGreat.Path Go.Proofs.YtooijgcildbnlaaGreat.CI
theorem NP {P:Program} {S:World→Prop} {Q:Exit→Act→World→Prop} {l:List Oper} {f n i:Nat} {q r:List (Nat×Bool)} {a:Act} {w:World} {o:Oper} (ho:l[i]?=some o) (hw:Region.wanted o (yielded l.toArray a.tmps)=true) (ty:TypeId) (x:Operand) (hop:o.op=.load ty x) (g off k:Nat) (hx:a.eval x=.pointer (some ⟨g,off,none⟩))
 {t:TypeId} {cur:Array Value} {fr:Nat×Nat} {d:TypeDesc} (hg:∀w0,S w0→w0.heap[g]?=some (.cells cur t fr)) (hu:P.underlying ty=some d) (hd:d.isRow=true) (hi:(P.info? ty).map (·.size)=some k) (hfit:off+k≤cur.size) (cs:Array Value) (hv:cur.extract off (off+k)=cs)
 (h:Dj P l Q f S n q r (a.put o.dst (.agg cs)) w):Dj P l Q f S n q ((i,false)::r) a w :=
 planG_look ho hw (fun w0 hS=>by
  unfold execOp;simp only[hop,hx,Instr.loadAt,Instr.sureAddr,Sem.run_bind,Sem.run_pure,Result.andThen_ok,Bb w0 (hg w0 hS) hu hd hi hfit,hv]) h
theorem Mp {σ:AD Nd} (G:Good σ) {n:Int} {s:Nd×Nat} (hs:σ.get? n=some s):∃(d:Nat) (t:Tr),Rep (sk σ) n d t∧(s.1.kind=2→s.1.depth=(d:Int)∧d≤255):=by
 by_cases h2:s.1.kind=2
 · have hi:=G.fit.inner (BV hs) h2
   have h0:0≤s.1.depth:=hi.d0;have h1:s.1.depth≤255:=hi.d1;obtain⟨d,hd⟩:∃d:Nat,s.1.depth=(d:Int):=⟨s.1.depth.toNat,by omega⟩
   obtain⟨t,ht⟩:=Rep.ex G.fit (256-d) d n (by omega) (.inr ⟨_,BV hs,fun _=>hd⟩);exact⟨d,t,ht,fun _=>⟨hd,by omega⟩⟩
 obtain⟨t,ht⟩:=Rep.ex G.fit 256 0 n rfl (.inr ⟨_,BV hs,fun e=>absurd e h2⟩);exact⟨0,t,ht,fun e=>absurd e h2⟩
theorem Rk {σ:AD Nd} (G:Good σ) {n:Int} {s:Nd×Nat} (hs:σ.get? n=some s) (h2:s.1.kind=2) {d:Nat} {t:Tr} (hr:Rep (sk σ) n d t) (hd:s.1.depth=(d:Int)) (hd2:d≤255) {e:List UInt8×List UInt8} (he:e∈t.Ai):Path.first e.1 d=s.1.key:=by
 obtain⟨hl,hp,_⟩:=hr.Xa G.fit e he;rw[By (BV hs)] at hp;have hi:=G.fit.inner (BV hs) h2;have hk:s.1.key=Path.first (if s.1.left=0 then (ndF (sk σ) s.1.right).key else (ndF (sk σ) s.1.left).key) s.1.depth:=hi.key
 have hkl:s.1.key.length=32:=hi.len;rw[hd] at hk;refine Ml (by rw[Bn];exact hl) hkl (fun j hj=>?_);by_cases c:j<d
 · rw[JJ e.1 d j c]
   exact hp j c
 rw[Ht hl hj (by omega),hk,Ht (by rw[hk,Bn] at hkl;exact hkl) hj (by omega)]
section
variable {w w' : World} {b : Nat} {F : Nat→Prop} {ρ : Rs} {σ : AD Nd}
theorem Hh (h:RAt w b F ρ) {n:Int} (hz0:ρ.sp n=Sp.zero) :
 Calls Tryz.prog 78 #[.pointer (some ⟨b,0,none⟩),.int .i64 n] w fun e w'=>e=.returned (.slice none 0 0)∧Adds w w':=by
 have hg:=CX h n;rw[hz0] at hg;obtain⟨Z,hZ⟩:∃Z,Z=Sp.zero.cells:=⟨_,rfl⟩
 have hzs:=Ey;rw[←hZ] at hg hzs;have k0:Z[0]?=some (.int .u8 0):=by rw[hZ];rfl
 have HZ:=(hIq hzs (by rw[hZ];exact⟨Sp.AT Sp.BA,Sp.cells_one Sp.BA⟩:Z.size=39∧∀v∈Z.toList,v.oneCell'=true))
 have HG:=Lib.hid hg;have K0:=Lib.hid k0;clear hg hz0 hZ hzs h k0;go_enter Tryz.func78,Tryz.ntmps78;go_wp2_with fail;refine HG.out.mono ?_;rintro e w1 ⟨rfl,a1⟩;have c0:=AG (AF (heap_alloc_new w1 (.cells Z 254)) Z) K0.out;have A1:=Lib.hid a1;clear a1
 go_wp2_with (first
  | fail
  | ((with_reducible show zOq (.alloc 254));refine AH rfl 254 rfl (.agg Z) HZ.out.1 ?_;dsimp only[Value.cells];try simp only[World.size_alloc])
  | ((with_reducible show zOq (.store 254 _ _));refine AE rfl 254 _ _ rfl w1.heap.size 0 Z rfl rfl (heap_alloc_new _ _) (by rw[CJ,HZ.out.2.1]) (by omega) HZ.out.2.2 Z (by rw[AI _ _ rfl]) ?_))
 go_ret;exact⟨rfl,(A1.out.alloc _).setRow (.inr A1.out.size) _⟩
theorem TG (h:RAt w b F ρ) (L:Lk σ ρ) (G:Good σ) (n:Int) :
 Calls Tryz.prog 244 #[.pointer (some ⟨b,0,none⟩),.int .i64 n] w fun e w'=>e=.returned (.int .i64 (nd σ n).size)∧Adds w w':=by
 cases hs:σ.get? n with
 | none =>
  have HE:=Lib.hid (Hh h (L.none hs));rw[B9 hs];clear h L G hs;go_enter Tryz.func244,Tryz.ntmps244;go_wp2_with fail;refine HE.out.mono ?_;rintro e w1 ⟨rfl,a1⟩;go_wp2;go_ret;exact⟨rfl,a1⟩
 | some s =>
  obtain⟨d,t,hr,_⟩:=Mp G hs;have hsz:=hr.size G.fit;rw[D9] at hsz;have hle:=Gu G hr;have hrm:σ.slots.length≤65536:=Nat.le_trans G.sound.wf.len G.sound.wf.room.2;rw[←t.Ca] at hsz;have HE:=Lib.hid (DZ L G hr h);have hwr:wrap64 ((t.Ai.length:Nat):Int)=(t.Ai.length:Int):=by unfold wrap64;omega
  rw[hwr] at hsz;have hsz':(nd σ n).size=(t.Ai.length:Int):=hsz;rw[hsz'];clear h L G hs hr hle hrm hwr hsz hsz';go_enter Tryz.func244,Tryz.ntmps244;go_wp2_with fail;refine HE.out.mono ?_;rintro e w1 ⟨v,out,rfl,hp,he,hn,hx,a1⟩;obtain⟨ao,cap,rfl⟩:=Ar hp;have hl:out.length=t.Ai.length:=by rw[←he,List.length_map]
  rw[hl];have A1:=Lib.hid a1;clear hp he hn hx a1 hl;go_wp2;go_ret;exact⟨rfl,A1.out⟩
def Ed (w:World) (g:Nat) (cur Z:Array Value) (wz:World):Prop:=wz.heap[g]?=some (.cells cur 141 (0,0))∧wz.heap[w.heap.size]?=some (.cells Z 24 (0,0))∧Adds w wz
theorem Ed.adds {g:Nat} {cur Z:Array Value} {wz wy:World} (h:Ed w g cur Z wz) (a:Adds wz wy):Ed w g cur Z wy:=⟨a.row h.1 id,a.row h.2.1 id,h.2.2.trans a (fun _=>fEq)⟩
theorem Ed.drew {g:Nat} {cur Z:Array Value} {wz:World} (h:Ed w g cur Z wz):Ed w g cur Z wz.drew:=h.adds (Ch.refl _ _).drew
theorem P3 (h:RAt w b F ρ) (L:Lk σ ρ) (G:Good σ) {n:Int} {s:Nd×Nat} (hs:σ.get? n=some s) (h2:s.1.kind=2) :
 Calls Tryz.prog 245 #[.pointer (some ⟨b,0,none⟩),.int .i64 n] w fun e w'=>e=.returned (.agg (AJ s.1.key))∧Adds w w':=by
 obtain⟨d,t,hrep,hdd⟩:=Mp G hs;obtain⟨hd,hd2⟩:=hdd h2;have hkf:=fun e he=>Rk G hs h2 hrep hd hd2 (e:=e) he
 have hne:=(Rep.many G.fit hrep).1 (G.fit.ne (BV hs));obtain⟨m,x,rfl,_,_,hx,_,hsp,hkx,_,_,_,_,_,hdx,_,_⟩:=L.some G hs;have hok:=(h.1.nums x (List.mem_of_getElem? hx)).1;obtain⟨Z,hZ⟩:∃Z,Z=AJ (List.replicate 32 0):=⟨_,rfl⟩
 have hzp:=Gf;rw[←hZ] at hzp;have hZs:Z.size=32:=by rw[hZ];rfl
 obtain⟨Z3,hZ3⟩:∃Z,Z=AJ (List.replicate 32 0):=⟨_,rfl⟩
 have hz3:=MQ;rw[←hZ3] at hz3;have HZ3:=(hIq hz3 (aIq (by rw[hZ3];rfl:Z3.size=32) trivial))
 have a0:Adds w (w.alloc (.cells Z 24)):=(Ch.refl _ w).alloc _;have hE:=DZ L G hrep (h.adds a0);have hg:=fun w1 (a:Adds w w1)=>CX (h.adds a) ((m:Int)+1)
 rw[hsp] at hg;obtain⟨N,hN⟩:∃N,N=x.cells:=⟨_,rfl⟩
 have k0:N[0]?=some (.int .u8 2):=by rw[hN,Sp.Av,hkx,h2];rfl
 have k1:N[1]?=some (.int .i64 (d:Int)):=by rw[hN,Sp.LI,hdx h2,hd]
 rw[←hN] at hg;have hfk:=fun w=>BH (P:=Tryz.prog) (w:=w) Tryz.underlying254 (i:=0) rfl (Tryz.isAgg113 w) k0
 obtain⟨dp,hdp⟩:∃dp:Int,dp=(d:Int):=⟨_,rfl⟩
 rw[←hdp] at k1;have hfd:=fun w=>BH (P:=Tryz.prog) (w:=w) Tryz.underlying254 (i:=1) rfl (Tryz.isAgg3 w) k1
 have HE:=Lib.hid hE;have HG:=Lib.hid hg;have HZ:=(hIq hzp hZs)
 have HA0:=Lib.hid a0;have HFD:=Lib.hid hfd;obtain⟨K2,hK2⟩:∃K,K=AJ s.1.key:=⟨_,rfl⟩
 have hkl:s.1.key.length=32:=(G.fit.all _ _ (BV hs)).key;have hK2s:K2.size=32∧∀v∈K2.toList,v.oneCell'=true:=by rw[hK2];exact⟨by rw[AY,hkl],Fs _⟩
 have HK2:=(hIq hK2 hK2s)
 rw[←hK2];have HKF:=(hIq hkf (aIq hne (aIq hd2 hdp)))
 clear hE hg hzp hZs a0 hN k0 k1 hrep h hZ hK2 hkl hK2s hkf hne hZ3 hz3 hfd hdd hd hd2 hdp hx hsp hkx hdx hok h2 hs L G;go_enter Tryz.func245,Tryz.ntmps245
 go_wp2_with (first
  | fail
  | ((with_reducible show zOq (.alloc 24));refine AH rfl 24 rfl (.agg Z) HZ.out.1 ?_;dsimp only[Value.cells];try simp only[World.size_alloc]))
 refine HE.out.mono ?_;rintro e w1 ⟨v,out,rfl,hp,he,hn,hx,a1⟩
 obtain⟨p,l,rfl⟩:∃p l,out=p::l:=by
  cases out with
  | nil=>have:=HKF.out.2.1;rw[←he] at this;simp at this
  | cons p l=>exact⟨p,l,rfl⟩
 have hpe:Path.first p.key d=s.1.key:=HKF.out.1 p.ent (by rw[←he];exact List.mem_cons_self ..)
 have hpl:p.key.length=32:=(hx p (List.mem_cons_self ..)).1;obtain⟨g,cap,cur,rfl,e2,e3,e4,e5,e6⟩:=BZ hp (by simp);have hfi:=fun w1=>Rc p.key hpl d (by have:=HKF.out.2.2.1;omega) w1
 obtain⟨K,hK⟩:∃K,K=AJ p.key:=⟨_,rfl⟩
 rw[hpe, ←HK2.out.1, ←hK, ←HKF.out.2.2.2] at hfi
 have hcur:cur.extract 0 (0+32)=K:=by
  have h1:(cur.toList.take ((p::l).length*33)).take 32=(BG (p::l)).take 32:=congrArg (List.take 32) e6
  have h2:(BG (p::l)).take 32=p.key.map bv:=by
   show(p.cells.toList++BG l).take 32=_
   rw[Pr.list,List.append_assoc,List.take_append_of_le_length (by simp[hpl]),List.take_of_length_le (by simp[hpl])]
  rw[List.take_take,h2,Nat.min_eq_left (by simp;omega)] at h1;apply Array.ext';rw[Array.toList_extract,hK];simpa[List.extract,AJ] using h1
 obtain⟨ln,hln⟩:∃ln,ln=(p::l).length:=⟨_,rfl⟩
 have hl9:0<ln:=by rw[hln];exact Nat.succ_pos _
 have hl0:((ln:Int) == 0)=false:=by simpa using (show ¬(ln:Int)=0 by omega)
 have hlp:(0:Int)<(ln:Int):=by omega
 rw[←hln] at e3 ⊢;have hln1:1≤ln:=by omega
 have KA:Ed w g cur Z w1:=⟨e2,a1.row (heap_alloc_new w (.cells Z 24)) id,HA0.out.trans a1 (fun _=>fEq)⟩
 have HKA:=Lib.hid KA;have HCU:=(hIq (by omega:0+32≤cur.size) hcur)
 have HFI:=Lib.hid hfi;clear hp he hn hx a1 hpe hpl e2 e3 e4 e5 e6 hfi hK hcur hln KA hln1;go_wp2_with fail;refine(HG.out _ HKA.out.2.2).mono ?_;rintro e w4 ⟨rfl,a4⟩;have H4:=Lib.hid (HKA.out.adds a4);clear a4;go_upto_region 6 with fail
 try simp only[Act.put]
 go_cut [6,7] (fun s6 s7 wx=>∃tb,s6=.pointer (some ⟨tb,0,none⟩)∧wx.heap[tb]?=some (.cells K2 23 (0,0))∧Ed w g cur Z wx)
 case first =>
  refine Jl 12 (Ed w g cur Z) 14 [(0,false),(1,false),(2,false),(3,false),(4,false),(5,false),(6,true),(7,false),(8,true),(9,false),(10,false),(11,false)] [(13,true)] (by kernel_rfl) (by kernel_rfl) ?_ ?_
  · exact H4.out.drew
  refine planG_look rfl rfl (fun w0 hS=>(by clear hS;go_simp;try rfl)) ?_;simp only[Act.put,nAq,nBq,nCq]
  iterate 2
   refine planG_look rfl rfl (fun w0 hS=>(by clear hS;go_simp;try rfl)) ?_;simp only[Act.put,nAq,nBq,nCq]
  refine NP (cur:=cur) (t:=141) (fr:=(0,0)) rfl rfl 24 (.tmp 27) rfl g 0 32 rfl (fun w0 hS=>hS.1) Tryz.underlying24 rfl Au HCU.out.1 K HCU.out.2 ?_;simp only[Act.put,nAq,nBq,nCq]
  iterate 2
   refine planG_look rfl rfl (fun w0 hS=>(by clear hS;go_simp;try rfl)) ?_;simp only[Act.put,nAq,nBq,nCq]
  refine OX rfl rfl ?_ ?_
  · go_wp2_with fail
    refine(HG.out _ H4.out.drew.2.2).mono ?_;rintro e w5 ⟨rfl,a⟩;have H5:=Lib.hid (Ed.adds H4.out.drew a);clear a;dsimp only;go_step;refine wpList_nil ?_;change _∧_;refine⟨H5.out,?_⟩;refine planG_look (v:=.int .i64 dp) rfl rfl (fun w0 hS=>(by have q:=HFD.out w0;clear hS;go_simp;try rfl)) ?_;simp only[Act.put,nAq,nBq,nCq];refine OX rfl rfl ?_ ?_
    · go_wp2_with fail
      refine(HFI.out _).mono ?_;rintro e w6 ⟨rfl,a⟩;have H6:=Lib.hid (Ed.adds H5.out a);clear a;dsimp only;go_step;refine wpList_nil ?_;change _∧_;refine⟨H6.out,?_⟩
      iterate 3
       refine planG_look rfl rfl (fun w0 hS=>(by clear hS;go_simp;try rfl)) ?_;simp only[Act.put,nAq,nBq,nCq]
      refine QA rfl ?_
      go_wp2_with (first
       | fail
       | ((with_reducible show zOq (.alloc 23));refine AH rfl 23 rfl (.agg Z3) HZ3.out.1 ?_;dsimp only[Value.cells];try simp only[World.size_alloc]))
      refine⟨H6.out.adds ((Ch.refl _ _).alloc _),?_⟩;refine Ah rfl ?_
      go_wp2_with (first
       | fail
       | ((with_reducible show zOq (.store 23 _ _));refine AE rfl 23 _ _ rfl w6.heap.size 0 K2 rfl rfl (heap_alloc_new _ _) (by rw[Cc,HK2.out.2.1]) (by rw[HK2.out.2.1,HZ3.out.2.1];omega) HK2.out.2.2 K2 (by rw[AI _ _ (by rw[Array.length_toList,Array.length_toList,HK2.out.2.1,HZ3.out.2.1])]) ?_))
      refine⟨(H6.out.adds (((Ch.refl _ _).alloc _).setRow (.inr (Nat.le_refl _)) _)),?_⟩;refine Ae ?_;simp only[List.drop_succ_cons,List.drop_zero];go_wp2;refine NoPanic.normal ?_;go_wp2;go_meet;exact⟨w6.heap.size,rfl,AF (heap_alloc_new _ _) _,(H6.out.adds (((Ch.refl _ _).alloc _).setRow (.inr (Nat.le_refl _)) _))⟩
    go_wp2_with (first
     | fail
     | ((with_reducible show zOq (.alloc 23));refine AH rfl 23 rfl (.agg Z3) HZ3.out.1 ?_;dsimp only[Value.cells];try simp only[World.size_alloc]))
    refine⟨H5.out.adds ((Ch.refl _ _).alloc _),?_⟩;refine Ah rfl ?_;go_wp2_with fail;refine(HFI.out _).mono ?_;rintro e w6 ⟨rfl,a⟩;have H6:=(hIq (Ed.adds (H5.out.adds ((Ch.refl _ _).alloc (.cells Z3 23))) a) (aIq (a.row (heap_alloc_new w5 (.cells Z3 23)) id) (fun Z'=>Ed.adds H5.out (((Ch.refl (fun _=>False) w5).alloc (.cells Z3 23)).trans a (fun _=>fEq) |>.setRow (.inr (Nat.le_refl _)) Z'))))
    clear a;dsimp only;go_step;refine wpList_nil ?_;change _∧_;refine⟨H6.out.1,?_⟩
    iterate 3
     refine plan_look rfl rfl (fun w0 hS=>(by clear hS;go_simp;try rfl)) ?_;simp only[Act.put,nAq,nBq,nCq]
    refine Ah rfl ?_
    go_wp2_with (first
     | fail
     | ((with_reducible show zOq (.store 23 _ _));refine AE rfl 23 _ _ rfl w5.heap.size 0 K2 rfl rfl H6.out.2.1 (by rw[Cc,HK2.out.2.1]) (by rw[HK2.out.2.1,HZ3.out.2.1];omega) HK2.out.2.2 K2 (by rw[AI _ _ (by rw[Array.length_toList,Array.length_toList,HK2.out.2.1,HZ3.out.2.1])]) ?_))
    refine⟨(H6.out.2.2 _),?_⟩;refine Ae ?_;simp only[List.drop_succ_cons,List.drop_zero];go_wp2;refine NoPanic.normal ?_;go_wp2;go_meet;exact⟨w5.heap.size,rfl,AF H6.out.2.1 _,(H6.out.2.2 _)⟩
  go_wp2_with (first
   | fail
   | ((with_reducible show zOq (.alloc 23));refine AH rfl 23 rfl (.agg Z3) HZ3.out.1 ?_;dsimp only[Value.cells];try simp only[World.size_alloc]))
  refine⟨H4.out.drew.adds ((Ch.refl _ _).alloc _),?_⟩;refine Ah rfl ?_;go_wp2_with fail;refine(HG.out _ (H4.out.drew.adds ((Ch.refl _ _).alloc (.cells Z3 23))).2.2).mono ?_;rintro e w5 ⟨rfl,a⟩;have H5:=(hIq (Ed.adds (H4.out.drew.adds ((Ch.refl _ _).alloc (.cells Z3 23))) a) (aIq (a.row (heap_alloc_new w4.drew (.cells Z3 23)) id) (((Ch.refl (fun _=>False) w4.drew).alloc (.cells Z3 23)).trans a (fun _=>fEq))))
  clear a;dsimp only;go_step;refine wpList_nil ?_;change _∧_;refine⟨H5.out.1,?_⟩;refine plan_look (v:=.int .i64 dp) rfl rfl (fun w0 hS=>(by have q:=HFD.out w0;clear hS;go_simp;try rfl)) ?_;simp only[Act.put,nAq,nBq,nCq];refine Ah rfl ?_;go_wp2_with fail;refine(HFI.out _).mono ?_;rintro e w6 ⟨rfl,a⟩;have H6:=(hIq (Ed.adds H5.out.1 a) (aIq (a.row H5.out.2.1 id) (fun Z'=>Ed.adds H4.out.drew ((H5.out.2.2.trans a (fun _=>fEq)).setRow (.inr (Nat.le_refl _)) Z'))))
  clear a;dsimp only;go_step;refine wpList_nil ?_;change _∧_;refine⟨H6.out.1,?_⟩
  iterate 3
   refine plan_look rfl rfl (fun w0 hS=>(by clear hS;go_simp;try rfl)) ?_;simp only[Act.put,nAq,nBq,nCq]
  refine Ah rfl ?_
  go_wp2_with (first
   | fail
   | ((with_reducible show zOq (.store 23 _ _));refine AE rfl 23 _ _ rfl w4.drew.heap.size 0 K2 rfl rfl H6.out.2.1 (by rw[Cc,HK2.out.2.1]) (by rw[HK2.out.2.1,HZ3.out.2.1];omega) HK2.out.2.2 K2 (by rw[AI _ _ (by rw[Array.length_toList,Array.length_toList,HK2.out.2.1,HZ3.out.2.1])]) ?_))
  refine⟨(H6.out.2.2 _),?_⟩;refine Ae ?_;simp only[List.drop_succ_cons,List.drop_zero];go_wp2;refine NoPanic.normal ?_;go_wp2;go_meet;exact⟨w4.drew.heap.size,rfl,AF H6.out.2.1 _,(H6.out.2.2 _)⟩
 obtain⟨tb,rfl,r9,h9⟩:=hcut;have H9:=(hIq r9 h9)
 have hlt9:=Ad h9.2.1;clear r9 h9
 go_wp2_with (first
  | fail
  | ((with_reducible show zOq (.load 23 _));refine AK rfl 23 _ rfl tb 0 rfl H9.out.1 Tryz.underlying23 rfl Cc (by rw[HK2.out.2.1];omega) K2 (by simp[←HK2.out.2.1]) ?_)
  | ((with_reducible show zOq (.store 24 _ _));refine AE rfl 24 _ _ rfl w.heap.size 0 K2 rfl rfl H9.out.2.2.1 (by rw[Au,HK2.out.2.1]) (by rw[HK2.out.2.1,HZ.out.2];omega) HK2.out.2.2 K2 (by rw[AI _ _ (by rw[Array.length_toList,Array.length_toList,HK2.out.2.1,HZ.out.2])]) ?_))
 exact AN (p:=4) rfl rfl (AF H9.out.2.2.1 _) Tryz.underlying24 rfl (by rw[Au,HK2.out.2.1]) rfl ⟨by rw[HK2.out.1],H9.out.2.2.2.setRow (.inr (Nat.le_refl _)) _⟩
end
end Go.Proofs.YtooijgcildbnlaaGreat.Store

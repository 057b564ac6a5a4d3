/- Laws of the layers below. -/
import Derived.Test.YtooijgcildbnlaaGreatQg41
set_option maxHeartbeats 3200000
set_option maxRecDepth 100000
set_option linter.unusedVariables false
namespace Go.Proofs.YtooijgcildbnlaaGreat.Store
open Go.RowKit Go.Sort Go.Proofs.YtooijgcildbnlaaGreat.ShaW Go.Proofs.YtooijgcildbnlaaGreat.Path Go.Proofs.YtooijgcildbnlaaGreat.CI
theorem Tj {w:World} {v:Value} {l:List Pr} (h:Lp w v l) (hl:l.length≤4096) (hv:∀x∈l,x.val.length≤1024) (hnd:(l.map Pr.key).Nodup) :
 Calls Tryz.prog 184 #[v] w fun e w'=>e=.returned (.int .i64 0)∧Adds w w':=by
 by_cases h0:l = []
 · subst h0
   obtain rfl:=h.nil rfl;clear h hl hv hnd;have A:=Lib.hid (Ch.refl (fun _=>False) w);go_enter Tryz.func184,Tryz.ntmps184;go_wp2_with fail;go_loopg [3,4] 0 (fun gg s3 s4 wr=>gg=0∧s3=.int .i64 0∧Adds w wr)
   case atStart=>exact⟨rfl,rfl,Ch.refl _ _⟩
   obtain⟨rfl,rfl,ha⟩:=hrel;have HA:=Lib.hid ha;clear ha;go_wp2;go_ret;exact⟨rfl,HA.out⟩
 have hpos:0<l.length:=List.length_pos_iff.2 h0;have hko:Fi l:=fun x hx=>(h.good x hx).key
 obtain⟨g,cap,cur,rfl,_,hg,hsz,hget,_⟩:=h.row.open hko hpos
 obtain⟨n,hn⟩:∃n,n=l.length:=⟨_,rfl⟩
 rw[←hn] at hl hsz hpos
 have hkey:∀i,i<n→∃k vo vn vc,k.length=32∧vn≤1024∧cur.extract (i*33) (i*33+32)=AJ k∧cur[i*33+32]?=some (.slice vo vn vc)∧(l.map Pr.key)[i]?=some k:=fun i hi=>by
  obtain⟨x,hx⟩:∃x,l[i]?=some x:=⟨_,List.getElem?_eq_getElem (by rw[←hn];exact hi)⟩
  have hgx:=h.good x (List.mem_of_getElem? hx);obtain⟨h1,h2⟩:=Cx hgx.key (hget i x hx);obtain⟨vo,vc,e,_⟩:=hgx.val.form;exact⟨x.key,vo,x.val.length,vc,hgx.key,hv x (List.mem_of_getElem? hx),h1,by rw[←e];exact h2,by rw[List.getElem?_map,hx];rfl⟩
 have hdiff:∀i k ki kk,k<i→(l.map Pr.key)[i]?=some ki→(l.map Pr.key)[k]?=some kk→kk≠ki:=fun i k ki kk hki h1 h2 e=>by
  subst e;have e:k=i:=(List.getElem?_inj (List.getElem?_eq_some_iff.1 h2).1 hnd).1 (h2.trans h1.symm);rw[e] at hki;exact Nat.lt_irrefl _ hki
 have HL:=(hIq hg (aIq hsz (aIq hkey hdiff)))
 rw[←hn];have hlz:¬(4096:Int)<(n:Int):=by omega
 clear h hg hsz hget hko hn h0 hkey hdiff hv hnd;go_enter Tryz.func184,Tryz.ntmps184;go_wp2_with fail;go_loopg [3,4] n (fun gg s3 s4 wr=>∃i:Nat,i≤n∧gg=n-i∧s3=.int .i64 i∧Adds w wr)
 case atStart=>exact⟨0,Nat.zero_le _,rfl,rfl,Ch.refl _ _⟩
 obtain⟨i,hi,rfl,rfl,ha⟩:=hrel;have hrow:=ha.row HL.out.1 id;have HA:=Lib.hid ha;clear ha;by_cases hin:i<n
 · obtain⟨ki,vo,vn,vc,hkl,hvn,hke,hve,hkm⟩:=HL.out.2.2.1 i hin
   have cv:=AG hrow hve;have e1:(i:Int)<(n:Int):=by omega
   have e2:¬(1024:Int)<(vn:Int):=by omega
   have HI:=(hIq hkl (aIq hke hkm))
   clear hkl hvn hke hve hkm hrow;go_wp2_with fail;go_loopg [4] i (fun gg s4 wx=>∃k:Nat,k≤i∧gg=i-k∧s4=.int .i64 k∧Adds w wx)
   case atStart=>exact⟨0,Nat.zero_le _,rfl,rfl,HA.out⟩
   obtain⟨k,hk,rfl,rfl,hax⟩:=hrel;have hrowx:=hax.row HL.out.1 id;have HX:=(hIq hax hrowx)
   clear hax hrowx cv;by_cases hki:k<i
   · obtain⟨kk,_,_,_,hkkl,_,hkke,_,hkkm⟩:=HL.out.2.2.1 k (by omega)
     have hne:=HL.out.2.2.2 i k ki kk hki HI.out.2.2 hkkm;have heq:=GW 24 Tryz.underlying24 kk ki hkkl HI.out.1;rw[decide_eq_false hne] at heq;have f1:(k:Int)<(i:Int):=by omega
     obtain⟨KI,hKI⟩:∃K,K=AJ ki:=⟨_,rfl⟩
     obtain⟨KK,hKK⟩:∃K,K=AJ kk:=⟨_,rfl⟩
     have hke:=HI.out.2.1;rw[←hKI] at hke heq;rw[←hKK] at hkke heq;have hb33:i*33+32≤cur.size∧k*33+32≤cur.size:=by have:=HL.out.2.1;omega
     have HQ:=(hIq heq (aIq hke (aIq hkke hb33)))
     have i1:(k:Int)<(n:Int):=by omega
     clear hne heq hke hkke hb33 hkkl hkkm hKI hKK;go_wp2;refine AS (fun wz=>wz.heap[g]?=some (.cells cur 141 (0,0))) 11 [(0,false),(1,false),(2,false),(3,false),(4,false),(5,false),(6,false),(7,false),(8,false),(9,false),(10,false)] (by kernel_rfl) (by kernel_rfl) ?_ ?_
     · exact AQ HX.out.2
     iterate 4
      refine plan_look rfl rfl (fun w0 hS=>(by clear hS;go_simp;try rfl)) ?_;simp only[Act.put,nAq,nBq,nCq]
     refine CQ (cur:=cur) (t:=141) (fr:=(0,0)) rfl rfl 24 _ rfl g (k*33) 32 rfl (fun w0 hS=>hS) Tryz.underlying24 rfl Au HQ.out.2.2.2.2 KK HQ.out.2.2.1 ?_;simp only[Act.put,nAq,nBq,nCq]
     iterate 4
      refine plan_look rfl rfl (fun w0 hS=>(by clear hS;go_simp;try rfl)) ?_;simp only[Act.put,nAq,nBq,nCq]
     refine CQ (cur:=cur) (t:=141) (fr:=(0,0)) rfl rfl 24 _ rfl g (i*33) 32 rfl (fun w0 hS=>hS) Tryz.underlying24 rfl Au HQ.out.2.2.2.1 KI HQ.out.2.1 ?_;simp only[Act.put,nAq,nBq,nCq];refine plan_look (v:=.bool false) rfl rfl (fun w0 hS=>(by have hq:=HQ.out.1 w0;rw[run_eql_struct] at hq;clear hS;go_simp)) ?_;simp only[Act.put,nAq,nBq,nCq];refine Ae ?_;simp only[List.drop_succ_cons,List.drop_zero];go_wp2;refine NoPanic.normal ?_;go_wp2;go_roundg (i-(k+1))
     case measure=>omega
     exact⟨k+1,by omega,rfl,by go_num,HX.out.1.drew⟩
   have f1:¬(k:Int)<(i:Int):=by omega
   go_wp2;go_roundg (n-(i+1))
   case measure=>omega
   exact⟨i+1,by omega,rfl,by go_num,HX.out.1⟩
 have e1:¬(i:Int)<(n:Int):=by omega
 go_wp2;go_ret;exact⟨rfl,HA.out⟩
theorem SQ {w:World} {v:Value} {l:List Pr} {k:List UInt8} (h:Lp w v l) (hl:l.length≤4096) (hv:∀x∈l,x.val.length≤1024) (hok:Bi.Ok (l.map Pr.ent) k 0) :
 Calls Tryz.prog 102 #[v] w fun e w'=>e=.returned (.tuple #[.agg (AJ (tree 256 (l.map Pr.ent)).dig),.int .i64 0])∧Adds w w':=by
 obtain⟨Z,hZ⟩:∃Z,Z=AJ (List.replicate 32 0):=⟨_,rfl⟩
 have hzh:=De;rw[←hZ] at hzh;have hZs:Z.size=32:=by rw[hZ];rfl
 obtain⟨O,hO⟩:∃O,O=AJ (tree 256 (l.map Pr.ent)).dig:=⟨_,rfl⟩
 have hOs:O.size=32∧∀v∈O.toList,v.oneCell'=true:=by rw[hO];exact⟨by rw[AY];exact CN _,Aq _⟩
 have a0:Adds w (w.alloc (.cells Z 85)):=(Ch.refl _ _).alloc _
 have hnd:(l.map Pr.key).Nodup:=by
  have:=hok.nodup;unfold Dz at this;rw[List.map_map] at this;exact this
 have hli:=Tj (h.adds a0) hl hv hnd
 have hat:∀w1,Adds w w1→Calls Tryz.prog 138 #[v,.int .i64 0] w1 fun e w'=>e=.returned (.agg O)∧Adds w1 w':=fun w1 a=>by
  rw[hO];exact Qt 256 0 rfl (h.adds a) (by omega) (fun x hx=>Nat.le_trans (hv x hx) (by omega)) hok
 obtain⟨q,qc,rfl⟩:=h.row.form;obtain⟨n,hn⟩:∃n,n=l.length:=⟨_,rfl⟩
 rw[←hn] at hli hat ⊢;rw[←hO];have HL:=(hIq hli hat)
 have HZ:=(hIq hzh (aIq hZs a0))
 have HO:=Lib.hid hOs;clear h hl hv hok hzh hZs hZ hO hOs a0 hnd hli hat hn;go_enter Tryz.func102,Tryz.ntmps102;go_wp2_with (first|fail|((with_reducible show zOq (.alloc 85));refine AH rfl 85 rfl (.agg Z) HZ.out.1 ?_;dsimp only[Value.cells];try simp only[World.size_alloc]));refine HL.out.1.mono ?_;rintro e w1 ⟨rfl,a1⟩;have H1:=(hIq (HZ.out.2.2.trans a1 (fun _=>fEq)) (a1.row (heap_alloc_new w (.cells Z 85)) id))
 clear a1;go_wp2_with fail;refine(HL.out.2 _ H1.out.1).mono ?_;rintro e w4 ⟨rfl,hc4⟩;have Z4:=Lib.hid (hc4.row H1.out.2 id);have W4:=Lib.hid (H1.out.1.trans hc4 (fun _=>fEq));clear hc4
 go_wp2_with (first
  | fail
  | ((with_reducible show zOq (.store 85 _ _));refine AE rfl 85 _ _ rfl w.heap.size 0 O rfl rfl Z4.out (by rw[BW,HO.out.1]) (by rw[HO.out.1,HZ.out.2.1];omega) HO.out.2 O (by rw[AI _ _ (by rw[Array.length_toList,Array.length_toList,HO.out.1,HZ.out.2.1])]) ?_))
 exact Aw (p:=2) (u:=3) rfl rfl (AF Z4.out _) Tryz.underlying85 rfl (by rw[BW,HO.out.1]) rfl ⟨rfl,W4.out.setRow (.inr (Nat.le_refl _)) _⟩
section
variable {w0 w w' : World} {s b : Nat} {F G : Nat→Prop} {σ : AD Nd} {root : Int} {t : Tr}
theorem Mi (σ:AD Nd) (root:Int):chk σ [root]=An σ root:=by
 unfold chk;rw[if_neg (by simp)];unfold Gh;by_cases e:An σ root=0
 · rw[if_neg (by simpa using e),e];rfl
 rw[if_pos e]
theorem RC (h:At w s F σ) (hre:An σ root≠0) :
 Calls Tryz.prog 28 #[.pointer (some ⟨s,0,none⟩),.int .i64 root] w fun e w'=>e=.returned (.tuple #[.bool false,.int .i64 (An σ root)])∧Adds w w':=by
 have a0:Adds w (w.alloc (.cells (Ci [root]).toArray 3)):=(Ch.refl _ w).alloc _;have hck:=Fb (h.adds a0) 1 (Gv w [root]) (by simp);rw[Mi] at hck;obtain⟨er,her⟩:∃er,er=An σ root:=⟨_,rfl⟩
 rw[←her] at hck hre ⊢;have HC:=Lib.hid hck;clear h hck a0 her;go_enter Tryz.func28,Tryz.ntmps28;go_wp2_with fail;refine HC.out.mono ?_;rintro e w1 ⟨rfl,a1⟩;have A1:=Lib.hid (((Ch.refl (fun _=>False) w).alloc (.cells (Ci [root]).toArray 3)).trans a1 (fun _=>fEq));clear a1;go_wp2;go_ret2;exact⟨rfl,A1.out⟩
theorem O3 (h:ROw w0 w b σ G) (GG:Good σ) (hre:An σ root≠0) :
 Calls Tryz.prog 29 #[.pointer (some ⟨b,0,none⟩),.int .i64 root] w fun e w'=>e=.returned (.tuple #[.bool false,.int .i64 (An σ root)])∧Adds w w':=by
 have a0:Adds w (w.alloc (.cells (Ci [root]).toArray 3)):=(Ch.refl _ w).alloc _;have hck:=G8 (h.adds a0) GG 1 (Gv w [root]) (by simp);rw[Mi] at hck;obtain⟨er,her⟩:∃er,er=An σ root:=⟨_,rfl⟩
 rw[←her] at hck hre ⊢;have HC:=Lib.hid hck;clear h hck a0 her;go_enter Tryz.func29,Tryz.ntmps29;go_wp2_with fail;refine HC.out.mono ?_;rintro e w1 ⟨rfl,a1⟩;have A1:=Lib.hid (((Ch.refl (fun _=>False) w).alloc (.cells (Ci [root]).toArray 3)).trans a1 (fun _=>fEq));clear a1;go_wp2;go_ret2;exact⟨rfl,A1.out⟩
theorem Nf (h:ROw w0 w b σ G) (GG:Good σ) (hr:Rep (sk σ) root 0 t) (hre:An σ root=0) (hlv:t.leaves≤4096) :
 Calls Tryz.prog 29 #[.pointer (some ⟨b,0,none⟩),.int .i64 root] w fun e w'=>e=.returned (.tuple #[.bool true,.int .i64 0])∧Adds w w':=by
 have a0:Adds w (w.alloc (.cells (Ci [root]).toArray 3)):=(Ch.refl _ w).alloc _;have hck:=G8 (h.adds a0) GG 1 (Gv w [root]) (by simp);rw[Mi,hre] at hck;obtain⟨ρ,F,h1,L,_⟩:=h;obtain⟨_,_,k,hok⟩:=Rep.Xs GG.fit hr;have hvs:=(hr.Ai GG.fit).1;have hen:=fun w1 (a:Adds w w1)=>DZ L GG hr (h1.adds a)
 have hlt:∀k,F k→k<w.heap.size:=h1.lt;have hdg:=fun w1 (a:Adds w w1)=>Fy (h1.adds a) L GG root
 have hde:Al σ root=(tree 256 t.Ai).dig:=by rw[Da,hr.dig GG.fit, ←Rep.canon GG.fit hr 256 rfl]
 rw[hde] at hdg
 have hrt:∀w1 v out,Lp w1 v out→out.map Pr.ent=t.Ai→Calls Tryz.prog 102 #[v] w1 fun e w'=>e=.returned (.tuple #[.agg (AJ (tree 256 t.Ai).dig),.int .i64 0])∧Adds w1 w':=fun w1 v out hl he=>by
  rw[←he] at hok hvs ⊢;refine SQ hl ?_ (fun x hx=>(hvs x.ent (List.mem_map.2 ⟨x,hx,rfl⟩)).2) hok;have:out.length=t.Ai.length:=by rw[←he,List.length_map]
  rw[this,Tr.Ca];exact hlv
 have hdl:(tree 256 t.Ai).dig.length=32:=CN _;have heq:=GW 85 Tryz.underlying85 (tree 256 t.Ai).dig (tree 256 t.Ai).dig hdl hdl;rw[decide_eq_true rfl] at heq;obtain⟨E,hE⟩:∃E,E=AJ (tree 256 t.Ai).dig:=⟨_,rfl⟩
 have hEs:E.size=32∧∀v∈E.toList,v.oneCell'=true:=by rw[hE];exact⟨by rw[AY];exact hdl,Aq _⟩
 rw[←hE] at heq hdg hrt;obtain⟨Z,hZ⟩:∃Z,Z=AJ (List.replicate 32 0):=⟨_,rfl⟩
 have hzh:=De;rw[←hZ] at hzh;have hZs:Z.size=32:=by rw[hZ];rfl
 have HC:=Lib.hid hck;have HEN:=(hIq hen (aIq hlt (aIq hrt hdg)))
 have HZ:=(hIq hzh hZs)
 have HE:=(hIq hEs heq)
 clear hck hen hlt hrt hdg hzh hZs hZ hEs heq hE hdl hde hvs hok h1 L a0 hre hr hlv;go_enter Tryz.func29,Tryz.ntmps29;go_wp2_with fail;refine HC.out.mono ?_;rintro e w1 ⟨rfl,a1⟩;have A1:=Lib.hid (((Ch.refl (fun _=>False) w).alloc (.cells (Ci [root]).toArray 3)).trans a1 (fun _=>fEq));clear a1;go_wp2_with fail;refine(HEN.out.1 _ A1.out).mono ?_;rintro e w2 ⟨v,out,rfl,hEn⟩;have hlp:=hEn.lp (fun k hk=>Nat.lt_of_lt_of_le (HEN.out.2.1 k hk) A1.out.size);have hen:=hEn.2.1;have A2:=Lib.hid (A1.out.trans hEn.2.2.2.2 (fun _=>fEq));have HRT:=Lib.hid (HEN.out.2.2.1 _ _ _ hlp hen);obtain⟨q,qc,rfl⟩:=hlp.row.form;clear hlp hen hEn;obtain⟨m,hm⟩:∃m,m=out.length:=⟨_,rfl⟩
 rw[←hm] at HRT ⊢;clear hm;go_wp2_with fail;refine HRT.out.mono ?_;rintro e w3 ⟨rfl,a3⟩;have A3:=Lib.hid (A2.out.trans a3 (fun _=>fEq));clear a3
 go_upto_region 5 with(first
  | fail
  | ((with_reducible show zOq (.alloc 85));refine AH rfl 85 rfl (.agg Z) HZ.out.1 ?_;dsimp only[Value.cells];try simp only[World.size_alloc])
  | ((with_reducible show zOq (.store 85 _ _));refine AE rfl 85 _ _ rfl w3.heap.size 0 E rfl rfl (heap_alloc_new _ _) (by rw[BW,HE.out.1.1]) (by rw[HE.out.1.1,HZ.out.2];omega) HE.out.1.2 E (by rw[AI _ _ (by rw[Array.length_toList,Array.length_toList,HE.out.1.1,HZ.out.2])]) ?_))
 have r4:((w3.alloc (.cells Z 85)).setRow w3.heap.size E).heap[w3.heap.size]?=some (.cells E 85 (0,0)):=AF (heap_alloc_new _ _) _;have a4:Adds w ((w3.alloc (.cells Z 85)).setRow w3.heap.size E):=(A3.out.alloc _).setRow (.inr A3.out.size) _;obtain⟨w4,hw4⟩:∃w4,w4=(w3.alloc (.cells Z 85)).setRow w3.heap.size E:=⟨_,rfl⟩
 obtain⟨B,hB⟩:∃B,B=w3.heap.size:=⟨_,rfl⟩
 rw[←hw4] at r4 a4 ⊢;rw[←hB] at r4 ⊢;have H4:=(hIq r4 a4)
 clear r4 a4 hw4 hB;refine AS (fun wz=>wz.heap[B]?=some (.cells E 85 (0,0))) 9 [(0,false),(1,false),(2,false),(3,false),(4,false),(5,false),(6,true),(7,false),(8,false)] (by kernel_rfl) (by kernel_rfl) ?_ ?_
 · exact AQ H4.out.1
 iterate 3
  refine plan_look rfl rfl (fun w0 hS=>(by clear hS;go_simp;try rfl)) ?_;simp only[Act.put,nAq,nBq,nCq]
 refine CQ (cur:=E) (t:=85) (fr:=(0,0)) rfl rfl 85 _ rfl B 0 32 rfl (fun w0 hS=>hS) Tryz.underlying85 rfl BW (by rw[HE.out.1.1];omega) E (by simp[←HE.out.1.1]) ?_;simp only[Act.put,nAq,nBq,nCq]
 iterate 2
  refine plan_look rfl rfl (fun w0 hS=>(by clear hS;go_simp;try rfl)) ?_;simp only[Act.put,nAq,nBq,nCq]
 refine Ah rfl ?_;go_wp2_with fail;refine(HEN.out.2.2.2 _ H4.out.2.drew).mono ?_;rintro e w5 ⟨rfl,a5⟩;have H5:=(hIq (a5.row (AQ H4.out.1) id) (H4.out.2.drew.trans a5 (fun _=>fEq)))
 clear a5;dsimp only;go_step;refine wpList_nil ?_;change _∧_;refine⟨H5.out.1,?_⟩;refine plan_look (v:=.bool true) rfl rfl (fun w0 hS=>(by have hq:=HE.out.2 w0;rw[run_eql_struct] at hq;clear hS;go_simp)) ?_;simp only[Act.put,nAq,nBq,nCq];refine plan_look (v:=.bool true) rfl rfl (fun w0 hS=>(by clear hS;go_simp;try rfl)) ?_;simp only[Act.put,nAq,nBq,nCq];refine Ae ?_;simp only[List.drop_succ_cons,List.drop_zero];go_wp2;refine NoPanic.normal ?_;go_wp2;go_ret2;exact⟨rfl,H5.out.2⟩
end
end Go.Proofs.YtooijgcildbnlaaGreat.Store
namespace Go.Proofs.YtooijgcildbnlaaGreat.Store
open Go.RowKit Go.Proofs.YtooijgcildbnlaaGreat.ShaW Go.Proofs.YtooijgcildbnlaaGreat.Path
section
variable {w0 w : World} {s b : Nat} {σ : AD Nd} {rm : Nat}
theorem Tw.sound (h:Tw w0 w s b σ (fun _=>False)) (hs:Law7.Cr rm σ) (hr:rm≤60) (one:Int):∃(x:Bool) (g:Int),∀w1,Adds w w1 →
 Calls Tryz.prog 28 #[.pointer (some ⟨s,0,none⟩),.int .i64 one] w1 (fun e w'=>e=.returned (.tuple #[.bool x,.int .i64 g])∧Adds w1 w') ∧
 Calls Tryz.prog 29 #[.pointer (some ⟨b,0,none⟩),.int .i64 one] w1 (fun e w'=>e=.returned (.tuple #[.bool x,.int .i64 g])∧Adds w1 w'):=by
 have GG:=hs.good;by_cases he:An σ one=0
 · obtain⟨t,_,_,hrep,_⟩:=Va GG (List.replicate 32 0) he
   have hlv:t.leaves≤4096:=by
    have h1:=Gu GG hrep;rw[Tr.Ca] at h1;have h2:=GG.sound.wf.len;have h3:=hs.room;omega
   refine⟨true,0,fun w1 a=>?_⟩;have h1:=h.adds a;obtain⟨F,hA,_⟩:=h1.ow;exact⟨Uc hA GG hrep he hlv,Nf h1.row GG hrep he hlv⟩
 refine⟨false,An σ one,fun w1 a=>?_⟩;have h1:=h.adds a;obtain⟨F,hA,_⟩:=h1.ow;exact⟨RC hA he,O3 h1.row GG he⟩
theorem Se (room:Int) {ao:Option Addr} {len:Nat} (cap:Nat) (ha:Law7.Hk w ao len) {ro:Option Addr} {R:List Int} (rcap:Nat) (hR:Az w ro R) (one:Int) :
 Calls Tryz.prog 4 #[.int .i64 room,.slice ao len cap,.slice ro R.length rcap,.int .i64 one] w fun e w'=>e=.returned (.bool true)∧Adds w w':=by
 have hM:=Vc room ao len cap w ha;have HM:=Lib.hid hM;obtain⟨rn,hrn⟩:∃rn,rn=R.length:=⟨_,rfl⟩
 rw[←hrn];have HR:=(hIq hR hrn)
 clear hM ha hR hrn;go_enter Tryz.func4,Tryz.ntmps4;go_wp2_with fail;refine HM.out.mono ?_;rintro e w1 ⟨a1,hm⟩;rcases hm with rfl|⟨s,b,σ,rm,rfl,hT,hF,hr1,hr2⟩
 · have A1:=Lib.hid a1
   clear a1;go_wp2;go_ret;exact⟨rfl,A1.out⟩
 by_cases hv2:70<rn
 · have hvi2:(70:Int)<(rn:Int):=by omega
   have A1:=Lib.hid a1;clear a1 hT hF hr1 hr2;go_wp2;go_ret;exact⟨rfl,A1.out⟩
 have hvi2:¬(70:Int)<(rn:Int):=by omega
 have GG:=hF.good;obtain⟨xs,gs,hsd⟩:=hT.sound hF hr2 one;obtain⟨F,hAt,_⟩:=hT.ow;have hRo:=hT.row;have hI1:=HR.out.1.adds a1;obtain⟨er,her⟩:∃er,er=chk σ R:=⟨_,rfl⟩
 have hck:=fun w2 (a:Adds w1 w2)=>SN (hAt.adds a) GG rcap (hI1.adds a) (by have:=HR.out.2;omega)
 have hrk:=fun w2 (a:Adds w1 w2)=>PL (hRo.adds a) GG rcap (hI1.adds a) (by have:=HR.out.2;omega)
 have hsh:=fun w2 (a:Adds w1 w2)=>O2 (hAt.adds a) GG rcap (hI1.adds a) (by have:=HR.out.2;omega)
 have hrs:=fun w2 (a:Adds w1 w2)=>M0 (hRo.adds a) GG rcap (hI1.adds a) (by have:=HR.out.2;omega)
 unfold Gm at hck hrk;unfold FQ at hsh hrs;rw[←HR.out.2, ←her] at hck hrk hsh hrs;have H1:=(hIq hck hrk)
 have H4:=(hIq hsh hrs)
 have HS:=Lib.hid hsd;have HC:=(hIq a1 (aIq GG her))
 clear hT hF hr1 hr2 GG hsd hAt hRo hI1 her hck hrk hsh hrs a1 hv2;go_wp2_with fail;refine(H1.out.1 _ (Ch.refl _ _)).mono ?_;rintro e w2 ⟨qa,ca,la,rfl,owa,a2,isa⟩;obtain⟨na,hna⟩:∃n,n=la.length:=⟨_,rfl⟩
 have ia:IsF σ R la:=by unfold IsF;rw[←HC.out.2.2];exact isa
 have hna6:na≤65536:=by rw[hna];exact ia.len HC.out.2.1
 rw[←hna] at owa ⊢;have A2:=Lib.hid a2;have HA:=(hIq owa (aIq ia hna))
 clear owa a2 isa ia hna;go_wp2_with fail;refine(H1.out.2 _ A2.out).mono ?_;rintro e w3 ⟨qb,cb,lb,rfl,owb,a3,isb⟩;have ib:IsF σ R lb:=by unfold IsF;rw[←HC.out.2.2];exact isb
 obtain rfl:=HA.out.2.1.same ib;rw[←HA.out.2.2] at owb ⊢;have A3:=Lib.hid (A2.out.trans a3 (fun _=>fEq));have RA:RowKit.Hid (MJ w3 qa na ca la∧MJ w3 qb na cb la):=Lib.hid ⟨⟨(a3.owns HA.out.1 (fun _ _ h=>h)).base (fun _ _=>Nat.zero_le _),HA.out.2.2.symm⟩,⟨owb.base (fun _ _=>Nat.zero_le _),HA.out.2.2.symm⟩⟩;clear owb a3 isb ib;go_wp2_with fail;refine(HS.out _ A3.out).1.mono ?_;rintro e w4 ⟨rfl,a4⟩;have A4:=(hIq (A3.out.trans a4 (fun _=>fEq)) a4)
 clear a4;go_wp2_with fail;refine(HS.out _ A4.out.1).2.mono ?_;rintro e w5 ⟨rfl,a5⟩;have A5:=(hIq (A4.out.1.trans a5 (fun _=>fEq)) (A4.out.2.trans a5 (fun _=>fEq)))
 clear a5;go_wp2_with fail;refine(H4.out.1 _ A5.out.1).mono ?_;rintro e w6 ⟨sn,rfl,a6,is4⟩;have A6:=(hIq (A5.out.1.trans a6 (fun _=>fEq)) (A5.out.2.trans a6 (fun _=>fEq)))
 have C6:=Lib.hid is4;clear a6 is4;go_wp2_with fail;refine(H4.out.2 _ A6.out.1).mono ?_;rintro e w7 ⟨sm,rfl,a7,is5⟩
 have hss:sn=sm:=by
  rcases C6.out with⟨n1,e1⟩|⟨z1,k1,W1,e1⟩
  · rcases is5 with⟨_,e2⟩|⟨z2,_⟩
    · rw[e1,e2]
    exact absurd z2 n1
  rcases is5 with⟨n2,_⟩|⟨_,k2,W2,e2⟩
  · exact absurd z1 n2
  rw[e1,e2];exact OV W1 W2
 subst hss;have A7:=(hIq (A6.out.1.trans a7 (fun _=>fEq)) (A6.out.2.trans a7 (fun _=>fEq)))
 clear a7 is5 C6;go_wp2_with fail;refine(Oh (RA.out.1.adds A7.out.2) (RA.out.2.adds A7.out.2) hna6).mono ?_;rintro e w8 ⟨rfl,a8⟩;have A8:=Lib.hid (HC.out.1.trans (A7.out.1.trans a8 (fun _=>fEq)) (fun _=>fEq));clear a8;go_wp2;go_ret;exact⟨rfl,A8.out⟩
end
end Go.Proofs.YtooijgcildbnlaaGreat.Store
namespace Go.Proofs.YtooijgcildbnlaaGreat
open Go.RowKit Go.ChangeShapes Go.WideShapes Go.ChangeAt
def Qn (W:World) (v:Value):Prop:=∃ao len cap,v=.slice ao len cap∧Law7.Hk W ao len
theorem TD {H:Type} {enc:TypeId×Value→H} {W:World} {base:Nat} {v:Value} {d:DataW H} {p:List MemPlace} (hv:Value.okWide Tryz.prog W .any base 58 v)
 (h:DataW.Trod enc Tryz.prog W 0 (fun _=>true) true 58 v d p):Qn W v:=Law7.NV hv h
end Go.Proofs.YtooijgcildbnlaaGreat
namespace Go.Proofs.YtooijgcildbnlaaGreat
open Go.RowKit Go.Proofs.YtooijgcildbnlaaGreat.ShaW Go.Proofs.YtooijgcildbnlaaGreat.Path Go.Proofs.YtooijgcildbnlaaGreat.Store Go.Proofs.YtooijgcildbnlaaGreat.CI Go.Deep Go.ChangeShapes Go.WideShapes Go.ChangeAt
def Ts (W:World) (v:Value):Prop:=∃ao l cap,v=.slice ao (List.length l) cap∧Az W ao l∧(∀x∈l,(Lit.int .i64 x).wf=true)∧l.length≤cap∧cap≤maxLen
section
variable {H : Type} {enc : TypeId×Value→H} {W : World} {base : Nat} {v : Value} {d : DataW H} {p : List MemPlace}
theorem Vu (hv:Value.okWide Tryz.prog W .any base 39 v)
 (h:DataW.Trod enc Tryz.prog W 0 (fun _=>true) true 39 v d p):Ts W v:=by
 obtain⟨ao,len,cap,rfl⟩:=okWide_slice Tryz.underlying39 hv;obtain⟨m,hm⟩:=h;rcases open_ints Tryz.underlying39 Tryz.underlying3 (by kernel_rfl) hm with⟨h0,_⟩|⟨a,l,c,zs,hcs,hb,hl,hc,hzl,hx,hcell,hwf⟩
 · simp only[Value.cells,List.cons.injEq,Value.slice.injEq,and_true] at h0
   obtain⟨rfl,rfl,rfl⟩:=h0;exact⟨_,[],_,rfl,Az.nil _ _,(fun x hx=>by cases hx),Nat.le_refl _,by unfold maxLen;omega⟩
 simp only[Value.cells,List.cons.injEq,Value.slice.injEq,and_true] at hcs;obtain⟨rfl,rfl,rfl⟩:=hcs;simp only[if_true] at hzl;refine⟨some a,zs.take len,cap,by simp[hzl,Nat.min_eq_left hl],fun i x hi=>?_,fun x hx=>hwf x (List.mem_of_mem_take hx),by simp[hzl];omega,hc⟩;have hil:i<len:=by have:=(List.getElem?_eq_some_iff.1 hi).1;simp at this;omega
 rw[List.getElem?_take_of_lt hil] at hi;have hlt:i<zs.length:=(List.getElem?_eq_some_iff.1 hi).1;obtain⟨g,off,spot⟩:=a;cases spot with
 | none =>
  refine⟨g,off,rfl,?_⟩;have h1:=hcell i hlt;rw[add_plain] at h1;rw[h1];simp[List.getD,hi]
 | some s =>
  exfalso;have h1:=hcell 0 (by omega);rw[Iz _ _ (by simp[Addr.add])] at h1;cases h1
end
def Yh (W:World) (v:Value):Prop:=∃k:List UInt8,k.length=32∧v=.agg (AJ k)
def YH (W:World) (v:Value):Prop:=∃bs:List UInt8,Bytes W v bs∧(bs ≠ []→∀k,v.ownBlock=some k→k<W.heap.size)
def YF (W:World) (v:Value):Prop:=∃ao l cap,v=.slice ao (List.length l) cap∧Bm W ao l∧l.length≤cap

end Go.Proofs.YtooijgcildbnlaaGreat

/- Laws of the layers below. -/
import Derived.Test.YtooijgcildbnlaaGreatQi41
set_option maxHeartbeats 3200000
set_option maxRecDepth 100000
set_option linter.unusedVariables false
namespace Go.Proofs.YtooijgcildbnlaaGreat.Law15
open Go.RowKit Go.Sort Go.Proofs.YtooijgcildbnlaaGreat.ShaW Go.Proofs.YtooijgcildbnlaaGreat.Path Go.Proofs.YtooijgcildbnlaaGreat.Store Go.Proofs.YtooijgcildbnlaaGreat.BC Go.Proofs.YtooijgcildbnlaaGreat.Law14
section
variable {w0 w w' : World} {d v s room tn : Nat} {G : Nat→Prop} {σ σ' : AA Nd} {root r : Int} {L L' : AN} {M M' : Nmd} {x key : List UInt8}
theorem Db.leaves {σ:AA Nd} {root:Int} {L:AN} (D:Db σ root L):(tree 256 L).leaves=L.length:=by rw[←Tr.D4,D.ents.length_eq]
def VN (w:World) (root:Int) (L:AN) (M:Nmd) (x:List UInt8) (e:Ending) (w':World):Prop :=
 Adds w w'∧∃n er hh Lx,e=.returned (.tuple #[.int .i64 n,.int .i64 er])∧ON root L M x hh er Lx∧n=if er=0 then (Lx.length:Int) else 0
theorem V1 (h:Dct w0 w d v s G room σ root L M tn) (hx:x.length≤maxLen):Calls Tryz.prog 44 #[.pointer (some ⟨d,0,none⟩),.string (BP x)] w (VN w root L M x):=by
 have hhd:=GM h hx;obtain⟨S,hS⟩:∃S,S=BP x:=⟨_,rfl⟩
 rw[←hS] at hhd ⊢;have HN:=Lib.hid hhd;have HH:=Lib.hid h;have c1:w.cell? ⟨d,1,none⟩=some (.pointer (some ⟨s,0,none⟩)):=AF h.cell rfl;clear hhd hS h;go_enter Tryz.func44,Tryz.ntmps44;go_wp2_with fail;refine HN.out.mono ?_;rintro e w3 ⟨hh,he,rfl,rfl,hd⟩;obtain⟨Lx,hdl⟩:=hd.pick L;have HD:=Lib.hid hdl;clear hd hdl;by_cases h0:he=0
 · have H0:=Lib.hid h0
   have hfd:Calls Tryz.prog 67 #[.pointer (some ⟨s,0,none⟩),.int .i64 hh] w fun e w'=>e=.returned (.tuple #[.int .i64 ((Lx.length:Nat):Int),.int .i64 0])∧Adds w w':=by
    obtain⟨F,hF⟩:=HH.out.at;have D:=HH.out.rts.db (HD.out.mem h0);rw[←Db.leaves D];exact Qy hF HH.out.rts.good D.rep (CE D.hand)
   have HF:=Lib.hid hfd;obtain⟨n,hn⟩:∃n,n=Lx.length:=⟨_,rfl⟩
   rw[←hn] at HF;have HNN:=Lib.hid hn;subst h0;clear hfd hn;go_wp2_with fail;refine HF.out.mono ?_;rintro e w4 ⟨rfl,a4⟩;have A4:=Lib.hid a4;clear a4;go_wp2;go_ret2;exact⟨A4.out,_,0,hh,Lx,rfl,HD.out,by rw[if_pos rfl,HNN.out]⟩
 have H0:=Lib.hid h0;go_wp2;go_ret2;exact⟨Ch.refl _ _,0,he,hh,Lx,rfl,HD.out,by rw[if_neg H0.out]⟩
def Tu (w:World) (root:Int) (L:AN) (M:Nmd) (x key:List UInt8) (most:Int) (e:Ending) (w':World):Prop :=
 Adds w w'∧∃v er,e=.returned (.tuple #[v,.int .i64 er])∧((key.length≠32∧er=3∧v=.slice none 0 0)∨(key.length=32∧∃hh he Lx,ON root L M x hh he Lx∧((he≠0∧er=he∧v=.slice none 0 0) ∨
  (he=0∧(most<0∨256<most)∧er=2∧v=.slice none 0 0)∨(he=0∧0≤most∧most≤256∧er=0∧∃out,Store.Told w.heap.size w' v out∧out.map Pr.ent=((tree 256 Lx).from key).take most.toNat))))
theorem Tt (h:Dct w0 w d v s G room σ root L M tn) (hx:x.length≤maxLen) {kv:Value} (hk:Bytes w kv key) (most:Int):Calls Tryz.prog 45 #[.pointer (some ⟨d,0,none⟩),.string (BP x),kv,.int .i64 most] w (Tu w root L M x key most):=by
 have hn:=Kk h hk;have hhd:=fun w1 (a:Adds w w1)=>GM (h.adds a) hx
 obtain⟨K,hK⟩:∃K,K=AJ (C6 key):=⟨_,rfl⟩
 have hks:K.size=32:=by rw[hK,AM,DU]
 have hk1:∀v∈K.toList,v.oneCell'=true:=by rw[hK];exact Ak _
 rw[←hK] at hn;obtain⟨Z,hZ⟩:∃Z,Z=AJ (List.replicate 32 0):=⟨_,rfl⟩
 have hzd:=E5;have hZs:Z.size=32:=by rw[hZ];rfl
 rw[←hZ] at hzd;obtain⟨S,hS⟩:∃S,S=BP x:=⟨_,rfl⟩
 rw[←hS] at hhd ⊢;have HZ:=(hIq hzd (aIq hZs (aIq hks hk1)))
 have HK:=Lib.hid hK;have HN:=(hIq hn hhd)
 have HH:=Lib.hid h;clear hzd hZs hZ hn hks hk1 hK hk hhd hS;by_cases h32:key.length=32
 · have e3:DT key=0:=by unfold DT;rw[if_pos h32]
   rw[e3] at HN;have e4:C6 key=key:=by unfold C6;rw[if_pos h32]
   have HE:=(hIq h32 e4)
   clear e3 e4 h32 h;go_enter Tryz.func45,Tryz.ntmps45;go_wp2_with fail;refine HN.out.1.mono ?_;rintro e w1 ⟨rfl,a1⟩;have A1:=Lib.hid a1;clear a1
   go_upto_region 4 with(first
    | fail
    | ((with_reducible show zOq (.alloc 24));refine AG rfl 24 rfl (.agg Z) HZ.out.1 ?_;dsimp only[Value.cells];try simp only[World.size_alloc])
    | ((with_reducible show zOq (.store 24 _ _));refine AB rfl 24 _ _ rfl w1.heap.size 0 K rfl rfl (heap_alloc_new _ _) (by rw[AT,HZ.out.2.2.1]) (by rw[HZ.out.2.1,HZ.out.2.2.1];exact Nat.le_of_eq (Nat.zero_add _)) HZ.out.2.2.2 K (by rw[AI _ _ (by rw[Array.length_toList,Array.length_toList,HZ.out.2.1,HZ.out.2.2.1])]) ?_))
   refine Cc (fun w2 hw2=>?_);have a2:Adds w w2:=by rw[hw2];exact(A1.out.alloc _).setRow (.inr A1.out.size) _
   have r2:w2.heap[w1.heap.size]?=some (.cells K 24 (0,0)):=by rw[hw2];exact AD (heap_alloc_new w1 (.cells Z 24)) K
   have H2:=(hIq a2 (aIq r2 (HH.out.adds a2).cell))
   clear a2 r2 hw2;go_wp2_with fail;refine(HN.out.2 _ H2.out.1).mono ?_;rintro e w3 ⟨hh,he,rfl,rfl,hd⟩;obtain⟨Lx,hdl⟩:=hd.pick L;have HD:=Lib.hid hdl;clear hd hdl;by_cases h0:he=0
   · have H0:=Lib.hid h0
     have hfd:Calls Tryz.prog 18 #[.pointer (some ⟨s,0,none⟩),.int .i64 hh,.agg K,.int .i64 most] w2.drew fun e w'=>Adds w2.drew w'∧∃v er,e=.returned (.tuple #[v,.int .i64 er])∧(((most<0∨256<most)∧er=2∧v=.slice none 0 0)∨(0≤most∧most≤256∧er=0∧∃out,Store.Told w.heap.size w' v out∧out.map Pr.ent=((tree 256 Lx).from (C6 key)).take most.toNat)):=by
      obtain⟨F,hF⟩:=(HH.out.adds H2.out.1.drew).at;have D:=HH.out.rts.db (HD.out.mem h0);rw[HK.out];by_cases hm:most<0∨256<most
      · refine(TQ hF (CE D.hand) _ most hm).mono ?_
        rintro e w' ⟨rfl,a⟩;exact⟨a,_,_,rfl,.inl ⟨hm,rfl,rfl⟩⟩
      refine(U4 hF HH.out.rts.good D.rep (CE D.hand) (C6 key) (DU key) most ⟨by omega,by omega⟩).mono ?_;rintro e w' ⟨v,out,rfl,ht,ho,a⟩;exact⟨a,_,_,rfl,.inr ⟨by omega,by omega,rfl,out,ht.YC H2.out.1.size,ho⟩⟩
     have HF:=Lib.hid hfd;subst h0;clear hfd;go_wp2;refine AO (fun w0=>w0.heap[d]?=some (.cells (OE v s root) 97 (0,0))∧w0.heap[w1.heap.size]?=some (.cells K 24 (0,0))) 12 [(0,false),(1,false),(2,false),(3,false),(4,false),(5,false),(6,false),(7,true),(8,false),(9,false),(10,false),(11,false)] (by kernel_rfl) (by kernel_rfl) ?_ ?_
     · exact⟨AQ H2.out.2.2,AQ H2.out.2.1⟩
     iterate 3
      iterate 1 refine plan_look rfl rfl (fun w0 hS=>(by go_simp;try rfl)) ?_
      simp only[Act.put,nAq,nBq,nCq]
     refine plan_look (v:=.pointer (some ⟨s,0,none⟩)) rfl rfl (fun w0 hS=>(by have e0:w0.cell? ⟨d,1,none⟩=some (.pointer (some ⟨s,0,none⟩)):=AF hS.1 rfl;clear hS;go_simp;try rfl)) ?_;simp only[Act.put,nAq,nBq,nCq]
     iterate 1 refine plan_look rfl rfl (fun w0 hS=>(by go_simp;try rfl)) ?_
     simp only[Act.put,nAq,nBq,nCq];refine Ai (cur:=K) (t:=24) (fr:=(0,0)) rfl rfl 24 _ rfl w1.heap.size 0 32 rfl (fun w0 hS=>hS.2) Tryz.underlying24 rfl AT (by rw[HZ.out.2.2.1];exact Nat.le_of_eq (Nat.zero_add _)) K (by have:=HZ.out.2.2.1;simp[←this]) ?_;simp only[Act.put,nAq,nBq,nCq]
     iterate 1 refine plan_look rfl rfl (fun w0 hS=>(by go_simp;try rfl)) ?_
     simp only[Act.put,nAq,nBq,nCq];refine AY rfl ?_;go_wp2_with fail;refine HF.out.mono ?_;rintro e w3 ⟨a3,v3,er3,rfl,hc3⟩;have A3:=(hIq (H2.out.1.drew.trans a3 (fun _=>fEq)) (aIq (a3.row (AQ H2.out.2.2) id) (aIq (a3.row (AQ H2.out.2.1) id) hc3)))
     clear a3 hc3;dsimp only;go_step;refine wpList_nil ?_;change _∧_;refine⟨⟨A3.out.2.1,A3.out.2.2.1⟩,?_⟩
     iterate 4
      refine plan_look rfl rfl (fun w0 hS=>(by clear hS;go_simp;try rfl)) ?_;simp only[Act.put,nAq,nBq,nCq]
     refine Ae ?_;simp only[List.drop_succ_cons,List.drop_zero];go_wp2;refine NoPanic.normal ?_;go_wp2;go_ret2;refine⟨A3.out.1,v3,er3,rfl,.inr ⟨HE.out.1,hh,0,Lx,HD.out,?_⟩⟩;have h3:=A3.out.2.2.2;rw[HE.out.2] at h3;rcases h3 with⟨h1,h2,h3⟩|⟨h1,h2,h3,h4⟩
     · exact .inr (.inl ⟨rfl,h1,h2,h3⟩)
     exact .inr (.inr ⟨rfl,h1,h2,h3,h4⟩)
   have H0:=Lib.hid h0;go_wp2;go_ret2;exact⟨H2.out.1,.slice none 0 0,he,rfl,.inr ⟨HE.out.1,hh,he,Lx,HD.out,.inl ⟨H0.out,rfl,rfl⟩⟩⟩
 have e3:DT key=3:=by unfold DT;rw[if_neg h32]
 rw[e3] at HN;have HE:=Lib.hid h32;clear e3 h32 h;go_enter Tryz.func45,Tryz.ntmps45;go_wp2_with fail;refine HN.out.1.mono ?_;rintro e w1 ⟨rfl,a1⟩;have A1:=Lib.hid a1;clear a1
 go_wp2_with (first
  | fail
  | ((with_reducible show zOq (.alloc 24));refine AG rfl 24 rfl (.agg Z) HZ.out.1 ?_;dsimp only[Value.cells];try simp only[World.size_alloc])
  | ((with_reducible show zOq (.store 24 _ _));refine AB rfl 24 _ _ rfl w1.heap.size 0 K rfl rfl (heap_alloc_new _ _) (by rw[AT,HZ.out.2.2.1]) (by rw[HZ.out.2.1,HZ.out.2.2.1];exact Nat.le_of_eq (Nat.zero_add _)) HZ.out.2.2.2 K (by rw[AI _ _ (by rw[Array.length_toList,Array.length_toList,HZ.out.2.1,HZ.out.2.2.1])]) ?_))
 go_ret2;exact⟨(A1.out.alloc _).setRow (.inr A1.out.size) _,.slice none 0 0,3,rfl,.inl ⟨HE.out,rfl,rfl⟩⟩
end
theorem Rn {σ:AA Nd} {root:Int} {L:AN} (D:Db σ root L) {out:List Pr} (ho:out.map Pr.ent=((tree 256 L).from (List.replicate 32 0)).take 256) :
 out.length=min L.length 256∧Em out∧(L.length≤256→tree 256 (out.map Pr.ent)=tree 256 L):=by
 obtain⟨h1,_,h3⟩:=D.rep.ents D.good.fit;have h4:=D.ents;rw[RL _ (fun e he=>(h1 e he).1)] at ho
 have hl:out.length=min L.length 256:=by
  have:=congrArg List.length ho;rw[List.length_map,List.length_take,h4.length_eq] at this;omega
 refine⟨hl,⟨by omega,fun x hx=>?_,?_⟩,fun h=>?_⟩
 · have:x.ent∈(tree 256 L).ents:=List.mem_of_mem_take (by rw[←ho];exact List.mem_map_of_mem hx)
   exact(h1 _ this).2
 · have h5:out.map (·.key)=((tree 256 L).ents.take 256).map Prod.fst:=by rw[←ho,List.map_map];rfl
   rw[h5];refine List.pairwise_map.2 ((h3.sublist (List.take_sublist _ _)).imp fun {a b} h e=>?_);unfold Ltk at h;rw[e,Gz] at h;omega
 rw[ho,List.take_of_length_le (by rw[h4.length_eq];exact h)];exact JI 256 h4
section
variable {w0 w w' : World} {d v s room tn : Nat} {G : Nat→Prop} {σ : AA Nd} {root : Int} {L : AN} {M : Nmd} {x key : List UInt8}
theorem ON.all {hh he:Int} {Lx:AN} (h:ON root L M x hh he Lx) (hn:(DB M).Nodup) (hx:x∈Ds M):he=0∧hh=C7 root M x∧Lx=Gm L M x:=by
 rcases h with⟨rfl,rfl,rfl,rfl⟩|⟨h1,h2,_⟩|⟨h1,rfl,p,hp,rfl,rfl,rfl⟩
 · exact⟨rfl,(if_pos rfl).symm,(if_pos rfl).symm⟩
 · rcases List.mem_cons.1 hx with e|e
   · exact absurd e h1
   obtain⟨p,hp,e⟩:=FA e;exact absurd (by rw[←e];exact List.mem_map_of_mem hp) h2
 refine⟨rfl,by unfold C7;rw[if_neg h1,Ei hn hp],?_⟩
 have hf:(M.find? fun q=>decide (q.1=p.1))=some p:=by
  clear hx h1
  induction M with
  | nil=>cases hp
  | cons q M ih =>
   obtain⟨n1,n2⟩:=List.nodup_cons.1 (show(q.1::DB M).Nodup from hn);rcases List.mem_cons.1 hp with rfl|hp
   · rw[List.find?_cons_of_pos (by simp)]
   rw[List.find?_cons_of_neg (by simp;exact fun e=>n1 (by rw[e];exact List.mem_map_of_mem hp))];exact ih n2 hp
 unfold Gm;rw[if_neg h1,hf];rfl
theorem Dct.name (h:Dct w0 w d v s G room σ root L M tn) (hx:x∈Ds M):Db σ (C7 root M x) (Gm L M x):=h.rts.db (Je h.nd hx)
def U0 (w:World) (L:AN) (e:Ending) (w':World):Prop:=Adds w w'∧∃ao out cap,e=.returned (.tuple #[.slice ao (List.length out) cap,.int .i64 0])∧BA w' ao out∧out.length=min L.length 256∧Em out∧(L.length≤256→tree 256 (out.map Pr.ent)=tree 256 L)∧out.map Pr.ent=((tree 256 L).from (List.replicate 32 0)).take 256
theorem Re (h:Dct w0 w d v s G room σ root L M tn) (hx:x∈Ds M) {kv:Value} (hk:Bytes w kv (List.replicate 32 0)):Calls Tryz.prog 45 #[.pointer (some ⟨d,0,none⟩),.string (BP x),kv,.int .i64 256] w (U0 w (Gm L M x)):=by
 refine(Tt h (Ha h hx) hk 256).mono ?_;rintro e w' ⟨a,v',er,rfl,hc⟩;rcases hc with⟨h1,_⟩|⟨_,hh,he,Lx,hd,hc⟩
 · exact absurd (by simp) h1
 obtain⟨rfl,_,rfl⟩:=hd.all h.nd hx;rcases hc with⟨h1,_⟩|⟨_,h1,_⟩|⟨_,_,_,rfl,out,ht,ho⟩
 · exact absurd rfl h1
 · omega
 have ho':out.map Pr.ent=((tree 256 (Gm L M x)).from (List.replicate 32 0)).take 256:=ho;obtain⟨g1,g2,g3⟩:=Rn (h.name hx) ho';obtain⟨ao,cap,e2,hp⟩:=Q4 ht.row ht.good;exact⟨a,ao,out,cap,by rw[e2],hp,g1,g2,g3,ho'⟩
theorem Us (h:Dct w0 w d v s G room σ root L M tn) (hx:x∈Ds M):Calls Tryz.prog 44 #[.pointer (some ⟨d,0,none⟩),.string (BP x)] w fun e w'=>e=.returned (.tuple #[.int .i64 (((Gm L M x).length:Nat):Int),.int .i64 0])∧Adds w w':=by
 refine(V1 h (Ha h hx)).mono ?_;rintro e w' ⟨a,n,er,hh,Lx,rfl,hd,hn⟩;obtain⟨rfl,_,rfl⟩:=hd.all h.nd hx;rw[if_pos rfl] at hn;rw[hn];exact⟨rfl,a⟩
theorem Rv (h:Dct w0 w d v s G room σ root L M tn) (hx:x∈Ds M):Calls Tryz.prog 38 #[.pointer (some ⟨d,0,none⟩),.string (BP x)] w fun e w'=>e=.returned (.tuple #[.agg (AJ (tree 256 (Gm L M x)).dig),.int .i64 0])∧Adds w w':=by
 refine(Tv h (Ha h hx)).mono ?_;rintro e w' ⟨hh,er,H,rfl,a,hd,hl,hg,_⟩;obtain⟨rfl,rfl⟩:=hd.C7 h.nd hx;rw[hg rfl _ (Je h.nd hx)];exact⟨rfl,a⟩
end
theorem VY {w:World} {a:Ce} (h:a.Good w):a.cells.size=6∧∀v∈a.cells.toList,v.oneCell'=true:=by
 refine⟨rfl,fun v hv=>?_⟩;obtain⟨ao,c,e,_⟩:=h.key.form;obtain⟨bo,c2,e2,_⟩:=h.val.form;simp[Ce.cells] at hv;rcases hv with rfl|rfl|rfl|rfl|rfl|rfl
 · rfl
 · rfl
 · rw[e];rfl
 · rw[e2];rfl
 · rfl
 rfl
theorem JL:(Tryz.prog.info? 80).map (·.size)=some 6:=by kernel_rfl
end Go.Proofs.YtooijgcildbnlaaGreat.Law15

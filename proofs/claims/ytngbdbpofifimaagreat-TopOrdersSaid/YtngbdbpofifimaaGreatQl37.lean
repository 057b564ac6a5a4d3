/- Laws of the layers below. -/
import Derived.Test.YtngbdbpofifimaaGreatQl31
import Derived.Test.YtngbdbpofifimaaGreatQl36
set_option maxHeartbeats 3200000
set_option maxRecDepth 100000
set_option linter.unusedVariables false
namespace Go.Proofs.YtngbdbpofifimaaGreat.Store
open Go.RowKit Go.Proofs.YtngbdbpofifimaaGreat.ShaW Go.Proofs.YtngbdbpofifimaaGreat.Path Go.Proofs.YtngbdbpofifimaaGreat.Law9
theorem Zl (ao:Option Addr) (len cap:Nat) (h:len≠32) (w:World) :
 Calls Tryz.prog 49 #[.slice ao len cap] w fun e w'=>e=.returned (.tuple #[.agg (AK (List.replicate 32 0)),.int .i64 3])∧Adds w w':=by
 have hne:¬(len:Int)=32:=by omega
 clear h;go_enter Tryz.func49,Tryz.ntmps49
 go_wp2_with (first
  | fail
  | ((with_reducible show zOq (.alloc 47));refine AI rfl 47 rfl (.agg (AK (List.replicate 32 0))) Ef ?_;dsimp only[Value.cells];try simp only[World.size_alloc])
  | ((with_reducible show zOq (.store 47 _ _));refine AE rfl 47 _ _ rfl w.heap.size 0 (AK (List.replicate 32 0)) rfl rfl (heap_alloc_new _ _) (by rw[AY];rfl) (Nat.le_of_eq (Nat.zero_add _)) (Ae _) (AK (List.replicate 32 0)) (by rw[AJ _ _ (by rw[Array.length_toList,Array.length_toList];rfl)]) ?_))
 exact Ag (p:=2) (u:=3) rfl rfl (AF (heap_alloc_new _ _) _) Tryz.underlying47 rfl (by rw[AY];rfl) rfl ⟨rfl,((Ch.refl _ _).alloc _).setRow (.inr (Nat.le_refl _)) _⟩
theorem Ox {w:World} {ao:Option Addr} {len cap:Nat} {bs:List UInt8} (h:Bytes w (.slice ao len cap) bs) (h0:0<bs.length):∃g off,ao=some ⟨g,off,none⟩∧CX w g off (AK bs):=by
 obtain⟨_,ha⟩:=h.at;obtain⟨g,off,e,_⟩:=ha 0 bs[0] (List.getElem?_eq_getElem h0);refine⟨g,off,e,?_⟩
 have:=CX.ID (w:=w) (g:=g) (o:=off) (m:=bs.length) (cs:=bs.map bv) h0 (by simp) (fun i hi=>by
  obtain⟨g',off',e',hc⟩:=ha i bs[i] (List.getElem?_eq_getElem hi);rw[e] at e';injection e' with e';injection e' with e1 e2;subst e1 e2;rw[hc,List.getElem?_map,List.getElem?_eq_getElem hi];rfl)
 exact this
theorem Kt {w:World} {v:Value} {bs:List UInt8} (h:Bytes w v bs) (hl:bs.length=32) :
 Calls Tryz.prog 49 #[v] w fun e w'=>e=.returned (.tuple #[.agg (AK bs),.int .i64 0])∧Adds w w':=by
 obtain⟨ao,cap,rfl,hcl,_⟩:=h.form;rw[hl] at h hcl ⊢;obtain⟨g,off,rfl,cur,ty,fr,c1,c2,c3⟩:=Ox h (by omega);obtain⟨Z,hZ⟩:∃Z,Z=AK (List.replicate 32 0):=⟨_,rfl⟩
 have hzd:=Ef;have hZs:Z.size=32:=by rw[hZ];rfl
 rw[←hZ] at hzd;have HZ:=(hIq hzd hZs)
 have hks:(AK bs).size=32:=by rw[AN];exact hl
 have hk1:=Ae bs;rw[hks] at c2 c3;obtain⟨K,hK⟩:∃K,K=AK bs:=⟨_,rfl⟩
 rw[←hK] at hks hk1 c3 ⊢;have HK:=(hIq hks (aIq hk1 c3))
 have C1:=(hIq (AM c1 (.cells Z 47)) c2)
 have hlt:=Ac c1
 have ha:∀w0,(Instr.arrayAt 47 (.slice (some ⟨g,off,none⟩) 32 cap)).run Tryz.prog w0=.ok (.pointer (some ⟨g,off,none⟩)) w0:=fun w0=>by
  unfold Instr.arrayAt;simp[Go.underlying,Tryz.underlying47]
 clear h hcl hl hZ hzd hZs hks hk1 hK c1 c2 c3;go_enter Tryz.func49,Tryz.ntmps49
 go_wp2_with (first
  | fail
  | ((with_reducible show zOq (.alloc 47));refine AI rfl 47 rfl (.agg Z) HZ.out.1 ?_;dsimp only[Value.cells];try simp only[World.size_alloc])
  | ((with_reducible show zOq (.load 47 _));refine AG rfl 47 _ rfl g off rfl C1.out.1 Tryz.underlying47 rfl AY (by have:=C1.out.2;omega) K HK.out.2.2 ?_)
  | ((with_reducible show zOq (.store 47 _ _));refine AE rfl 47 _ _ rfl w.heap.size 0 K rfl rfl (heap_alloc_new _ _) (by rw[AY,HK.out.1]) (by rw[HK.out.1,HZ.out.2];omega) HK.out.2.1 K (by rw[AJ _ _ (by rw[Array.length_toList,Array.length_toList,HK.out.1,HZ.out.2])]) ?_))
 exact Ag (p:=2) (u:=3) rfl rfl (AF (heap_alloc_new _ _) _) Tryz.underlying47 rfl (by rw[AY,HK.out.1]) rfl ⟨rfl,((Ch.refl _ _).alloc _).setRow (.inr (Nat.le_refl _)) _⟩
end Go.Proofs.YtngbdbpofifimaaGreat.Store
namespace Go.Proofs.YtngbdbpofifimaaGreat.Store
open Go.RowKit Go.Proofs.YtngbdbpofifimaaGreat.ShaW Go.Proofs.YtngbdbpofifimaaGreat.Path
theorem EJ:(Tryz.prog.info? 35).bind (·.zero)=some (.agg (AK (List.replicate 32 0))):=by kernel_rfl
theorem Be:(Tryz.prog.info? 35).map (·.size)=some 32:=by kernel_rfl
def bP (w:World) (v:Value):Prop:=v=.pointer none∨∃s,v=.pointer (some ⟨s,0,none⟩)∧w.heap[s]?=some (.cells #[.pointer none,.pointer none,.int .i64 0] 115 (0,0))
section
variable {w : World} {v : Value}
theorem Mk (fn:Fn) (first cap:Array Value) (w:World):(Instr.makeFunc fn first cap).run Tryz.prog w=.ok (.func fn first cap) w:=rfl
end
end Go.Proofs.YtngbdbpofifimaaGreat.Store
namespace Go.Proofs.YtngbdbpofifimaaGreat.Law15
open Go.RowKit Go.Sort Go.Proofs.YtngbdbpofifimaaGreat.ShaW Go.Proofs.YtngbdbpofifimaaGreat.Path Go.Proofs.YtngbdbpofifimaaGreat.Store Go.Proofs.YtngbdbpofifimaaGreat.Law9 Go.Proofs.YtngbdbpofifimaaGreat.Law14
def Od (v s:Nat) (root:Int):Array Value:=#[.pointer (some ⟨v,0,none⟩),.pointer (some ⟨s,0,none⟩),.int .i64 root]
structure Dct (w0 w:World) (d v s:Nat) (G:Nat→Prop) (room:Nat) (σ:AD Nd) (root:Int) (L:AS) (M:Nmd) (tn:Nat):Prop where
 cell:w.heap[d]?=some (.cells (Od v s root) 115 (0,0))
 vs:Vs w0 w v s σ (En M) (fun k=>k=d∨G k)
 rts:BE σ ((root,L)::JY M)
 room:σ.room=room
 total:Store.total σ≤tn
 base:w0.heap.size≤d∧¬G d
section
variable {w0 w w' : World} {d v s room tn : Nat} {G : Nat→Prop} {σ σ' : AD Nd} {root r : Int} {L L' : AS} {M M' : Nmd}
theorem Dct.adds (h:Dct w0 w d v s G room σ root L M tn) (a:Adds w w'):Dct w0 w' d v s G room σ root L M tn:=⟨a.row h.cell id,h.vs.adds a,h.rts,h.room,h.total,h.base⟩
theorem Dct.Ik (h:Dct w0 w d v s G room σ root L M tn) {tn':Nat} (h1:tn≤tn'):Dct w0 w d v s G room σ root L M tn':=⟨h.cell,h.vs,h.rts,h.room,Nat.le_trans h.total h1,h.base⟩
theorem Dct.world (h:Dct w0 w d v s G room σ root L M tn):Adds w0 w:=h.vs.world
theorem Dct.at (h:Dct w0 w d v s G room σ root L M tn):∃F,At w s F σ:=h.vs.ow.at
theorem Dct.lens (h:Dct w0 w d v s G room σ root L M tn) {x:List UInt8} (hx:x∈EL M):x.length≤maxLen:=by
 obtain⟨m,_,_,h3,_⟩:=h.vs;exact h3.len x (by rw[CR];exact hx)
theorem Dct.nd (h:Dct w0 w d v s G room σ root L M tn):(EL M).Nodup:=by
 obtain⟨m,_,_,h3,_⟩:=h.vs;rw[←CR];exact h3.nd
theorem Dct.slots (h:Dct w0 w d v s G room σ root L M tn):σ.slots.length≤65536:=by
 obtain⟨F,hF⟩:=h.at;have:=hF.len;have:=hF.room;omega
theorem Dct.write (hc:w.heap[d]?=some (.cells (Od v s root) 115 (0,0))) (hv:Vs w0 w v s σ' (En M) (fun k=>k=d∨G k)) (hr:BE σ' ((r,L')::JY M)) (h3:σ'.room=room) (h4:Store.total σ'≤tn) (h5:w0.heap.size≤d∧¬G d) :
 Dct w0 (w.setCell ⟨d,2,none⟩ (.int .i64 r)) d v s G room σ' r L' M tn∧But G w (w.setCell ⟨d,2,none⟩ (.int .i64 r)):=by
 have hch:Ch (fun k=>k=d) w (w.setCell ⟨d,2,none⟩ (.int .i64 r)):=by
  have:=(Ch.refl (fun k=>k=d) w).setCell (p:=⟨d,2,none⟩) (.inl rfl) (.int .i64 r);exact this
 exact⟨⟨AQ hc 2 _,hv.beside hch (fun k hk=>⟨.inl hk,by rw[hk];exact h5.1⟩),hr,h3,h4,h5⟩,hch.mono (fun k _ hk hg=>h5.2 (by rw[←hk];exact hg))⟩
end
structure DStep (w0 w w':World) (d v s:Nat) (G:Nat→Prop) (room:Nat) (σ σ':AD Nd) (root':Int) (L':AS) (M':Nmd) (tn n:Nat):Prop where
 dct:Dct w0 w' d v s G room σ' root' L' M' (tn+60000)
 but:But G w w'
 live:Store.live σ'≤Store.live σ+n
section
variable {w0 w w' : World} {d v s room tn : Nat} {G : Nat→Prop} {σ σ' : AD Nd} {root r : Int} {L L' : AS} {M M' : Nmd}
theorem Dct.stay (h:Dct w0 w d v s G room σ root L M tn) (a:Adds w w') (n:Nat):DStep w0 w w' d v s G room σ σ root L M tn n:=⟨(h.adds a).Ik (Nat.le_add_right _ _),Adds.but a,Nat.le_add_right _ _⟩
theorem FB (h:Dct w0 w d v s G room σ root L M tn):Calls Tryz.prog 55 #[.pointer (some ⟨d,0,none⟩)] w fun e w'=>e=.returned (.bool false)∧w=w':=by
 have c1:w.cell? ⟨d,1,none⟩=some (.pointer (some ⟨s,0,none⟩)):=AH h.cell rfl;clear h;go_enter Tryz.func55,Tryz.ntmps55;go_wp2;go_ret;exact⟨rfl,rfl⟩
theorem Ny (h:Dct w0 w d v s G room σ root L M tn):Calls Tryz.prog 143 #[.pointer (some ⟨d,0,none⟩)] w fun e w'=>e=.returned (.int .i64 0)∧w=w':=by
 have HN:=Lib.hid (FB h);clear h;go_enter Tryz.func143,Tryz.ntmps143;go_wp2_with fail;refine HN.out.mono ?_;rintro e w1 ⟨rfl,rfl⟩;go_wp2;go_ret;exact⟨rfl,rfl⟩
def Co (key:List UInt8):List UInt8:=if key.length=32 then key else List.replicate 32 0
theorem Cy (key:List UInt8):(Co key).length=32:=by unfold Co;split<;>simp[*]
def DA (key:List UInt8):Int:=if key.length=32 then 0 else 3
theorem Vq {kv:Value} {key:List UInt8} (hk:Bytes w kv key):Calls Tryz.prog 49 #[kv] w fun e w'=>e=.returned (.tuple #[.agg (AK (Co key)),.int .i64 (DA key)])∧Adds w w':=by
 unfold Co DA;by_cases h:key.length=32
 · rw[if_pos h,if_pos h]
   exact Kt hk h
 rw[if_neg h,if_neg h];obtain⟨ao,cap,rfl,_,_⟩:=hk.form;exact Zl ao key.length cap h w
theorem JV (h:Dct w0 w d v s G room σ root L M tn) {kv:Value} {key:List UInt8} (hk:Bytes w kv key):Calls Tryz.prog 59 #[.pointer (some ⟨d,0,none⟩),kv] w fun e w'=>e=.returned (.tuple #[.agg (AK (Co key)),.int .i64 (DA key)])∧Adds w w':=by
 have hn:=fun w1 (a:Adds w w1)=>FB (h.adds a)
 have ho:=fun w1 (a:Adds w w1)=>Vq (hk.Af a (fun _ _ h=>h))
 obtain⟨K,hK⟩:∃K,K=AK (Co key):=⟨_,rfl⟩
 have hks:K.size=32:=by rw[hK,AN,Cy]
 have hk1:∀v∈K.toList,v.oneCell'=true:=by rw[hK];exact Ae _
 obtain⟨er,her⟩:∃er,er=DA key:=⟨_,rfl⟩
 rw[←hK, ←her] at ho ⊢;obtain⟨ao,cap,rfl,_,_⟩:=hk.form;obtain⟨len,hlen⟩:∃len,len=key.length:=⟨_,rfl⟩
 rw[←hlen] at ho ⊢;have HN:=(hIq hn ho)
 have HK:=(hIq hks hk1)
 clear h hk hn ho hK hks hk1 her hlen;go_enter Tryz.func59,Tryz.ntmps59
 go_wp2_with (first
  | fail
  | ((with_reducible show zOq (.alloc 47));refine AI rfl 47 rfl (.agg (AK (List.replicate 32 0))) Ef ?_;dsimp only[Value.cells];try simp only[World.size_alloc]))
 refine(HN.out.1 _ ((Ch.refl _ _).alloc _)).mono ?_;rintro e w1 ⟨rfl,rfl⟩;go_wp2_with fail;refine(HN.out.2 _ ((Ch.refl _ _).alloc _)).mono ?_;rintro e w2 ⟨rfl,a2⟩;have r2:=a2.row (heap_alloc_new w (.cells (AK (List.replicate 32 0)) 47)) id;have H2:=(hIq (((Ch.refl (fun _=>False) w).alloc (.cells (AK (List.replicate 32 0)) 47)).trans a2 (fun _=>fEq)) r2)
 clear a2 r2
 go_wp2_with (first
  | fail
  | ((with_reducible show zOq (.store 47 _ _));refine AE rfl 47 _ _ rfl w.heap.size 0 K rfl rfl H2.out.2 (by rw[AY,HK.out.1]) (by rw[HK.out.1];exact Nat.le_of_eq (Nat.zero_add _)) HK.out.2 K (by rw[AJ _ _ (by rw[Array.length_toList,Array.length_toList,HK.out.1];rfl)]) ?_))
 exact Ag (p:=4) (u:=5) rfl rfl (AF H2.out.2 _) Tryz.underlying47 rfl (by rw[AY,HK.out.1]) rfl ⟨rfl,H2.out.1.setRow (.inr (Nat.le_refl _)) _⟩
end
def Hdl (root:Int) (M:Nmd) (x:List UInt8) (hh er:Int):Prop:=(x = []∧hh=root∧er=0)∨(x ≠ []∧x∉EL M∧hh=0∧er=7)∨(x ≠ []∧er=0∧∃p∈M,p.1=x∧hh=p.2.1)
def XF (w:World) (root:Int) (M:Nmd) (x:List UInt8) (e:Ending) (w':World):Prop:=∃hh er,e=.returned (.tuple #[.int .i64 hh,.int .i64 er])∧w=w'∧Hdl root M x hh er
theorem Qq (x:List UInt8):(BP x).toList.isEmpty=decide (x = []):=by
 have h:=LH x []
 have h0:(BP []).toList = []:=by
  unfold BP ByteArray.toList;unfold ByteArray.toList.loop;simp;exact fun h=>absurd h (Nat.lt_irrefl 0)
 rw[h0] at h;rw[←h];cases (BP x).toList<;>rfl
section
variable {w0 w w' : World} {d v s room tn : Nat} {G : Nat→Prop} {σ σ' : AD Nd} {root r : Int} {L L' : AS} {M M' : Nmd}
theorem FF (h:Dct w0 w d v s G room σ root L M tn) {x:List UInt8} (hx:x.length≤maxLen):Calls Tryz.prog 57 #[.pointer (some ⟨d,0,none⟩),.string (BP x)] w (XF w root M x):=by
 have hr:=h.vs.root hx;have hdn:=FB h;have c0:w.cell? ⟨d,0,none⟩=some (.pointer (some ⟨v,0,none⟩)):=AH h.cell rfl;have c2:w.cell? ⟨d,2,none⟩=some (.int .i64 root):=AH h.cell rfl;have hem:=Qq x;rw[CR] at hr;obtain⟨S,hS⟩:∃S,S=BP x:=⟨_,rfl⟩
 rw[←hS] at hr hem ⊢;have HN:=(hIq hdn hr)
 have HH:=Lib.hid h;clear hdn hr h hS;by_cases h0:x = []
 · rw[decide_eq_true h0] at hem
   have H0:=Lib.hid h0;clear h0;go_enter Tryz.func57,Tryz.ntmps57;go_wp2_with fail;refine HN.out.1.mono ?_;rintro e w1 ⟨rfl,rfl⟩;go_wp2;go_ret2;exact⟨root,0,rfl,rfl,.inl ⟨H0.out,rfl,rfl⟩⟩
 rw[decide_eq_false h0] at hem;have H0:=Lib.hid h0;clear h0;by_cases hm:x∈EL M
 · rw[if_pos hm] at HN
   have HM:=Lib.hid hm;clear hm;go_enter Tryz.func57,Tryz.ntmps57;go_wp2_with fail;refine HN.out.1.mono ?_;rintro e w1 ⟨rfl,rfl⟩;go_wp2_with fail;refine HN.out.2.mono ?_;rintro e w1 ⟨rfl,rfl⟩;go_wp2;go_ret2;obtain⟨p,hp,e⟩:=Jf HM.out;refine⟨_,0,rfl,rfl,.inr (.inr ⟨H0.out,rfl,p,hp,e,?_⟩)⟩;rw[←e];exact Ga HH.out.nd hp
 rw[if_neg hm] at HN;have HM:=Lib.hid hm;clear hm;go_enter Tryz.func57,Tryz.ntmps57;go_wp2_with fail;refine HN.out.1.mono ?_;rintro e w1 ⟨rfl,rfl⟩;go_wp2_with fail;refine HN.out.2.mono ?_;rintro e w1 ⟨rfl,rfl⟩;go_wp2;go_ret2;exact⟨0,7,rfl,rfl,.inr (.inl ⟨H0.out,HM.out,rfl,rfl⟩)⟩
def VI (w:World) (root:Int) (L:AS) (M:Nmd) (x:List UInt8) (e:Ending) (w':World):Prop :=
 ∃hh er H,e=.returned (.tuple #[.agg (AK H),.int .i64 er])∧Adds w w'∧Hdl root M x hh er∧H.length=32∧(er=0→∀Lx,(hh,Lx)∈(root,L)::JY M→H=(tree 256 Lx).dig)∧(er≠0→H=List.replicate 32 0)
theorem Vz (h:Dct w0 w d v s G room σ root L M tn) {x:List UInt8} (hx:x.length≤maxLen):Calls Tryz.prog 11 #[.pointer (some ⟨d,0,none⟩),.string (BP x)] w (VI w root L M x):=by
 have hh:=fun w1 (a:Adds w w1)=>FF (h.adds a) hx
 have hdg:∀(n:Int) (w1:World),Adds w w1→Calls Tryz.prog 58 #[.pointer (some ⟨s,0,none⟩),.int .i64 n] w1 fun e w'=>e=.returned (.agg (AK (Ar σ n)))∧Adds w1 w':=fun n w1 a=>by
  obtain⟨F,hF⟩:=(h.adds a).at;exact E7 hF n
 have hdl:∀n,(Ar σ n).length=32:=fun n=>by
  obtain⟨F,hF⟩:=h.at;exact hF.AT n
 obtain⟨S,hS⟩:∃S,S=BP x:=⟨_,rfl⟩
 rw[←hS] at hh ⊢;have hcell:=fun w1 (a:Adds w w1)=>(h.adds a).cell
 have HN:=(hIq hh (aIq hdg (aIq hcell hdl)))
 have HH:=Lib.hid h;clear hh hdg hcell hdl h hS;go_enter Tryz.func11,Tryz.ntmps11
 go_upto_region 1 with(first
  | fail
  | ((with_reducible show zOq (.alloc 35));refine AI rfl 35 rfl (.agg (AK (List.replicate 32 0))) EJ ?_;dsimp only[Value.cells];try simp only[World.size_alloc]))
 refine BJ (fun w1 hw1=>?_);have a1:Adds w w1:=by rw[hw1];exact(Ch.refl _ _).alloc _
 have r1:w1.heap[w.heap.size]?=some (.cells (AK (List.replicate 32 0)) 35 (0,0)):=by rw[hw1];exact heap_alloc_new _ _
 have A1:=(hIq a1 r1)
 clear a1 r1 hw1;go_wp2_with fail;refine(HN.out.1 _ A1.out.1).mono ?_;rintro e w2 ⟨hh,er,rfl,rfl,hd⟩;have HD:=Lib.hid hd;by_cases he:er=0
 · have HE:=Lib.hid he
   subst he;clear hd;have c1:w1.cell? ⟨d,1,none⟩=some (.pointer (some ⟨s,0,none⟩)):=AH (HN.out.2.2.1 _ A1.out.1) rfl;obtain⟨K,hK⟩:∃K,K=AK (Ar σ hh):=⟨_,rfl⟩
   have hdg:=HN.out.2.1 hh _ A1.out.1;rw[←hK] at hdg;have HK:=(hIq hdg (aIq (show K.size=32 by rw[hK,AN,HN.out.2.2.2]) (aIq (show ∀v∈K.toList,v.oneCell'=true by rw[hK];exact Ae _) hK)))
   clear hK hdg;go_wp2_with fail;refine HK.out.1.mono ?_;rintro e w2 ⟨rfl,a2⟩;have H2:=(hIq (A1.out.1.trans a2 (fun _=>fEq)) (a2.row A1.out.2 id))
   clear a2 c1
   go_wp2_with (first
    | fail
    | ((with_reducible show zOq (.store 35 _ _));refine AE rfl 35 _ _ rfl w.heap.size 0 K rfl rfl H2.out.2 (by rw[Be,HK.out.2.1]) (by rw[HK.out.2.1];exact Nat.le_of_eq (Nat.zero_add _)) HK.out.2.2.1 K (by rw[AJ _ _ (by rw[Array.length_toList,Array.length_toList,HK.out.2.1];rfl)]) ?_))
   refine Ag (p:=4) (u:=5) rfl rfl (AF H2.out.2 _) Tryz.underlying35 rfl (by rw[Be,HK.out.2.1]) rfl ⟨hh,0,Ar σ hh,by rw[←HK.out.2.2.2];rfl,H2.out.1.setRow (.inr (Nat.le_refl _)) _,HD.out,HN.out.2.2.2 hh,fun _ Lx hm=>(HH.out.rts.db hm).digest,fun h=>absurd rfl h⟩
 clear hd
 go_wp2_with (first
  | fail
  | ((with_reducible show zOq (.store 35 _ _));refine AE rfl 35 _ _ rfl w.heap.size 0 (AK (List.replicate 32 0)) rfl rfl A1.out.2 (by rw[Be];rfl) (Nat.le_of_eq (Nat.zero_add _)) (Ae _) (AK (List.replicate 32 0)) (by rw[AJ _ _ rfl]) ?_))
 refine Ag (p:=4) (u:=5) rfl rfl (AF A1.out.2 (AK (List.replicate 32 0))) Tryz.underlying35 rfl (by rw[Be];rfl) rfl ⟨hh,er,List.replicate 32 0,rfl,A1.out.1.setRow (.inr (Nat.le_refl _)) _,HD.out,rfl,fun h=>absurd h he,fun _=>rfl⟩
end
section
variable {w0 w w' : World} {d v s room tn : Nat} {G : Nat→Prop} {σ σ' : AD Nd} {root r : Int} {L L' : AS} {M M' : Nmd}
theorem Dct.ZM (h:Dct w0 w d v s G room σ root L M tn) {p:List UInt8×Int×AS} (hp:p∈M) (hv:Vs w0 w' v s (Is σ p.2.1) (En (JZ M p.1)) (fun k=>k=d∨G k)) (hb:But (fun k=>k=d∨G k) w w') :
 DStep w0 w w' d v s G room σ (Is σ p.2.1) root L (JZ M p.1) tn 0:=by
 have hr:BE σ ((p.2.1,p.2.2)::(root,L)::JY (JZ M p.1)):=h.rts.perm (((Oz h.nd hp).cons (root,L)).trans (List.Perm.swap ..));have hc:=hb.row h.cell (.inl rfl);have ht:=h.total;by_cases h0:p.2.1=0
 · have e0:Is σ p.2.1=σ:=by unfold Is;rw[if_pos h0]
   rw[e0] at hv ⊢;rw[h0] at hr;exact⟨⟨hc,hv,hr.less,h.room,by omega,h.base⟩,hb.less (fun _ h=>.inr h),Nat.le_refl _⟩
 have e0:Is σ p.2.1=(An σ p.2.1).2.2:=by unfold Is;rw[if_neg h0]
 rw[e0] at hv ⊢;obtain⟨g0,g1,g2,g3,g4⟩:=hr.drop h0;exact⟨⟨hc,hv,g1,g4.trans h.room,by omega,h.base⟩,hb.less (fun _ h=>.inr h),g2⟩
def TR (w0 w:World) (d v s:Nat) (G:Nat→Prop) (room:Nat) (σ:AD Nd) (root:Int) (L:AS) (M:Nmd) (tn:Nat) (x:List UInt8) (e:Ending) (w':World):Prop :=
 ∃σ' M' er,e=.returned (.int .i64 er)∧DStep w0 w w' d v s G room σ σ' root L M' tn 0∧((x∉EL M∧er=7∧M'=M)∨(x∈EL M∧er=0∧M'=JZ M x))
theorem UY (h:Dct w0 w d v s G room σ root L M tn) {x:List UInt8} (hx:x.length≤maxLen):Calls Tryz.prog 65 #[.pointer (some ⟨d,0,none⟩),.string (BP x)] w (TR w0 w d v s G room σ root L M tn x):=by
 have hdn:=Ny h;have c0:w.cell? ⟨d,0,none⟩=some (.pointer (some ⟨v,0,none⟩)):=AH h.cell rfl;by_cases hm:x∈EL M
 · obtain⟨p,hp,hpx⟩:=Jf hm
   have hcut:=h.vs.cut hx (by rw[CR];exact hm) (root:=p.2.1) (by rw[←hpx];exact Ga h.nd hp);rw[Vc] at hcut;obtain⟨cn,hcn⟩:∃cn,cn=(if p.2.1=0 then 0 else (An σ p.2.1).1):=⟨_,rfl⟩
   rw[←hcn] at hcut;clear hcn;obtain⟨S,hS⟩:∃S,S=BP x:=⟨_,rfl⟩
   rw[←hS] at hcut ⊢;have HN:=(hIq hdn hcut)
   have HH:=(hIq h (aIq hm (aIq hp hpx)))
   clear hdn hcut h hm hp hpx hS;go_enter Tryz.func65,Tryz.ntmps65;go_wp2_with fail;refine HN.out.1.mono ?_;rintro e w1 ⟨rfl,rfl⟩;go_wp2_with fail;refine HN.out.2.mono ?_;rintro e w1 ⟨rfl,hv,hb⟩;have H1:=(hIq hv hb)
   clear hv hb c0;go_wp2;go_ret;have hd:=HH.out.1.ZM HH.out.2.2.1 (by rw[HH.out.2.2.2];exact H1.out.1) H1.out.2;rw[HH.out.2.2.2] at hd;exact⟨_,_,0,rfl,hd,.inr ⟨HH.out.2.1,rfl,rfl⟩⟩
 have hcut:=h.vs.aS hx (by rw[CR];exact hm);obtain⟨S,hS⟩:∃S,S=BP x:=⟨_,rfl⟩
 rw[←hS] at hcut ⊢;have HN:=(hIq hdn hcut)
 have HH:=(hIq h hm)
 clear hdn hcut h hm hS;go_enter Tryz.func65,Tryz.ntmps65;go_wp2_with fail;refine HN.out.1.mono ?_;rintro e w1 ⟨rfl,rfl⟩;go_wp2_with fail;refine HN.out.2.mono ?_;rintro e w1 ⟨rfl,rfl⟩;go_wp2;go_ret;exact⟨σ,M,7,rfl,HH.out.1.stay (Ch.refl _ _) 0,.inl ⟨HH.out.2,rfl,rfl⟩⟩
theorem Ka {R:List (Int×AS)} (h:BE σ R) {p:Int×AS} (hp:p∈R) (h0:p.1=0):BE σ (p::R) :=
 ⟨h.good,fun k hk=>by rw[h.held k hk,Dw p,if_neg (fun e=>hk (e.trans h0))];rfl,fun q hq=>(List.mem_cons.1 hq).elim (fun e=>h.rep q (by rw[e];exact hp)) (h.rep q),
  fun q hq=>(List.mem_cons.1 hq).elim (fun e=>h.nodup q (by rw[e];exact hp)) (h.nodup q),fun q hq=>(List.mem_cons.1 hq).elim (fun e=>h.len q (by rw[e];exact hp)) (h.len q)⟩
def Ve (w0 w:World) (d v s:Nat) (G:Nat→Prop) (room:Nat) (σ:AD Nd) (L:AS) (M:Nmd) (tn:Nat) (x:List UInt8) (e:Ending) (w':World):Prop :=
 ∃σ' r' L' er,e=.returned (.int .i64 er)∧DStep w0 w w' d v s G room σ σ' r' L' M tn 0∧((x∉EL M∧er=7∧L'=L)∨(er=0∧∃p∈M,p.1=x∧L'=p.2.2))
structure Mid (w0 w wx:World) (d v s:Nat) (G:Nat→Prop) (room:Nat) (σ σ1:AD Nd) (M:Nmd) (R:List (Int×AS)) (tn:Nat):Prop where
 vs:Vs w0 wx v s σ1 (En M) (fun k=>k=d∨G k)
 but:But (fun k=>k=d∨G k) w wx
 rts:BE σ1 R
 room:σ1.room=room
 total:Store.total σ1≤tn
 live:Store.live σ1≤Store.live σ
theorem Oo (h:Dct w0 w d v s G room σ root L M tn) {x:List UInt8} (hx:x.length≤maxLen) (htn:tn≤500000000):Calls Tryz.prog 64 #[.pointer (some ⟨d,0,none⟩),.string (BP x)] w (Ve w0 w d v s G room σ L M tn x):=by
 have hdn:=Ny h;have c0:w.cell? ⟨d,0,none⟩=some (.pointer (some ⟨v,0,none⟩)):=AH h.cell rfl;have c1:w.cell? ⟨d,1,none⟩=some (.pointer (some ⟨s,0,none⟩)):=AH h.cell rfl;have hrt:=h.vs.root hx;rw[CR] at hrt;obtain⟨S,hS⟩:∃S,S=BP x:=⟨_,rfl⟩
 rw[←hS] at hrt ⊢;by_cases hm:x∈EL M
 · obtain⟨p,hp,hpx⟩:=Jf hm
   rw[if_pos hm, ←hpx,Ga h.nd hp] at hrt;obtain⟨n,hn⟩:∃n,n=p.2.1:=⟨_,rfl⟩
   rw[←hn] at hrt;have HN:=(hIq hdn hrt)
   have HH:=(hIq h (aIq hp (aIq hpx (aIq hn htn))))
   clear hdn hrt h hm hp hpx hn hS;have hmem:(n,p.2.2)∈(root,L)::JY M:=List.mem_cons_of_mem _ (by rw[HH.out.2.2.2.1];exact List.mem_map_of_mem (f:=fun p:List UInt8×Int×AS=>(p.2.1,p.2.2)) HH.out.2.1);have HM:=Lib.hid hmem;clear hmem;go_enter Tryz.func64,Tryz.ntmps64;go_wp2_with fail;refine HN.out.1.mono ?_;rintro e w1 ⟨rfl,rfl⟩;go_wp2_with fail;refine HN.out.2.mono ?_;rintro e w1 ⟨rfl,rfl⟩;go_upto_if 28 with fail;go_cut [8] (fun s8 wx=>∃σ1,Mid w0 w wx d v s G room σ σ1 M ((n,p.2.2)::(root,L)::JY M) (tn+1))
   case first =>
    by_cases h0:n=0
    · have H0:=Lib.hid h0
      subst h0;go_wp2;go_meet;exact⟨σ,HH.out.1.vs,Ch.refl _ _,Ka HH.out.1.rts HM.out rfl,HH.out.1.room,Nat.le_succ_of_le HH.out.1.total,Nat.le_refl _⟩
    obtain⟨m,ho,hst⟩:=HH.out.1.vs.step;have hhd:=ho.hold n;have hpm:((root,L)::JY M).Perm ((n,p.2.2)::((root,L)::JY M).erase (n,p.2.2)):=List.perm_cons_erase HM.out;obtain⟨g0,g1,g2,g3,g4⟩:=(HH.out.1.rts.perm hpm).hold h0 (by have:=HH.out.1.total;have:=HH.out.2.2.2.2;omega);rw[g0] at hhd;have HO:=(hIq hhd (aIq (@hst) (aIq (g1.perm (hpm.symm.cons _)) (aIq g2 (aIq g3 g4)))))
    clear ho hst hhd hpm g0 g1 g2 g3 g4 c0;go_wp2_with fail;refine HO.out.1.mono ?_;rintro e w2 ⟨rfl,o2,b2⟩;obtain⟨v2,b2'⟩:=HO.out.2.1 o2 b2;have H2:=(hIq v2 b2')
    clear o2 b2 v2 b2';go_wp2;go_meet;exact⟨_,H2.out.1,H2.out.2,HO.out.2.2.1,HO.out.2.2.2.2.2.trans HH.out.1.room,by have:=HO.out.2.2.2.2.1;have:=HH.out.1.total;omega,Nat.le_of_eq HO.out.2.2.2.1⟩
   obtain⟨σ1,hmid⟩:=hcut;have hrow:=hmid.but.row HH.out.1.cell (.inl rfl);clear c0 c1;have c2:wc.cell? ⟨d,2,none⟩=some (.int .i64 root):=AH hrow rfl;have HMD:=(hIq hmid hrow)
   clear hmid hrow;go_upto_if 42 with fail;go_cut [] (fun wy=>∃σ2,Mid w0 w wy d v s G room σ σ2 M ((n,p.2.2)::JY M) (tn+1))
   case first =>
    by_cases h0:root=0
    · have H0:=Lib.hid h0
      subst h0;go_wp2;go_meet;exact⟨σ1,HMD.out.1.vs,HMD.out.1.but,(HMD.out.1.rts.perm (List.Perm.swap ..)).less,HMD.out.1.room,HMD.out.1.total,HMD.out.1.live⟩
    obtain⟨m,ho,hst⟩:=HMD.out.1.vs.step;have hdr:=fun w1 (a:Adds wc w1)=>(ho.adds a).drop root
    obtain⟨g0,g1,g2,g3,g4⟩:=(HMD.out.1.rts.perm (List.Perm.swap ..)).drop h0;have HO:=(hIq hdr (aIq (@hst) (aIq g1 (aIq g2 (aIq g3 g4)))))
    clear ho hst hdr g0 g1 g2 g3 g4 c2;go_wp2;refine AO (fun w0=>w0.heap[d]?=some (.cells (Od v s root) 115 (0,0))) 9 [(0,false),(1,false),(2,false),(3,false),(4,false),(5,false),(6,false),(7,false),(8,true)] (by kernel_rfl) (by kernel_rfl) ?_ ?_
    · exact AP HMD.out.2
    iterate 3
     iterate 1 refine plan_look rfl rfl (fun w0 hS=>(by go_simp;try rfl)) ?_
     simp only[Act.put,nAq,nBq,nCq]
    refine plan_look (v:=.pointer (some ⟨s,0,none⟩)) rfl rfl (fun w0 hS=>(by have e0:w0.cell? ⟨d,1,none⟩=some (.pointer (some ⟨s,0,none⟩)):=AH hS rfl;clear hS;go_simp;try rfl)) ?_;simp only[Act.put,nAq,nBq,nCq]
    iterate 3
     iterate 1 refine plan_look rfl rfl (fun w0 hS=>(by go_simp;try rfl)) ?_
     simp only[Act.put,nAq,nBq,nCq]
    refine plan_look (v:=.int .i64 root) rfl rfl (fun w0 hS=>(by have e0:w0.cell? ⟨d,2,none⟩=some (.int .i64 root):=AH hS rfl;clear hS;go_simp;try rfl)) ?_;simp only[Act.put,nAq,nBq,nCq];refine AV rfl ?_;go_wp2_with fail;refine(HO.out.1 _ (Ch.refl _ _).drew).mono ?_;rintro e w3 ⟨rfl,o3,b3⟩;obtain⟨v3,c3⟩:=HO.out.2.1 o3 ((Adds.but (Ch.refl _ _).drew).then b3);have r3:=c3.row HMD.out.2 (.inl rfl);have H3:=(hIq v3 (aIq c3 r3))
    clear o3 b3 v3 c3 r3;dsimp only;go_step;refine wpList_nil ?_;change _∧_;refine⟨H3.out.2.2,?_⟩;refine AZ ?_;simp only[List.drop_succ_cons,List.drop_zero];go_wp2;refine NoPanic.normal ?_;go_wp2;go_meet;exact⟨_,H3.out.1,HMD.out.1.but.then H3.out.2.1,HO.out.2.2.1,HO.out.2.2.2.2.2.trans HMD.out.1.room,Nat.le_trans HO.out.2.2.2.2.1 HMD.out.1.total,Nat.le_trans HO.out.2.2.2.1 HMD.out.1.live⟩
   obtain⟨σ2,hmid⟩:=hcut;have hrow:=hmid.but.row HH.out.1.cell (.inl rfl);clear c2;have f3:=Al hrow 2;have l3:=Ac hrow;have c2:wc.cell? ⟨d,2,none⟩=some (.int .i64 root):=AH hrow rfl;have HM2:=(hIq hmid hrow)
   clear hmid hrow;go_wp2;go_ret;have hdw:=Dct.write (tn:=tn+60000) HM2.out.2 HM2.out.1.vs HM2.out.1.rts HM2.out.1.room (by have:=HM2.out.1.total;omega) HH.out.1.base;exact⟨σ2,n,p.2.2,0,rfl,⟨hdw.1,(HM2.out.1.but.less (fun _ h=>.inr h)).then hdw.2,HM2.out.1.live⟩,.inr ⟨rfl,p,HH.out.2.1,HH.out.2.2.1,rfl⟩⟩
 rw[if_neg hm] at hrt;have HN:=(hIq hdn hrt)
 have HH:=(hIq h hm)
 clear hdn hrt h hm hS;go_enter Tryz.func64,Tryz.ntmps64;go_wp2_with fail;refine HN.out.1.mono ?_;rintro e w1 ⟨rfl,rfl⟩;go_wp2_with fail;refine HN.out.2.mono ?_;rintro e w1 ⟨rfl,rfl⟩;go_wp2;go_ret;exact⟨σ,root,L,7,rfl,HH.out.1.stay (Ch.refl _ _) 0,.inl ⟨HH.out.2,rfl,rfl⟩⟩
end
end Go.Proofs.YtngbdbpofifimaaGreat.Law15

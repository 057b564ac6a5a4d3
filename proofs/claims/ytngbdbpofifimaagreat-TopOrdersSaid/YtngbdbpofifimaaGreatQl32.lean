/- Laws of the layers below. -/
import Derived.Test.YtngbdbpofifimaaGreatQl25
import Derived.Shelf.Sort.Plain
import Derived.Shelf.Slices.In.SortNone2
import Derived.Sort.OwnSorted
import Derived.Lib.SlicesS
set_option maxHeartbeats 3200000
set_option maxRecDepth 100000
set_option linter.unusedVariables false
namespace Go.Proofs.YtngbdbpofifimaaGreat.Store
open Go.RowKit Go.Proofs.YtngbdbpofifimaaGreat.ShaW Go.Proofs.YtngbdbpofifimaaGreat.Path
set_option linter.unusedSimpArgs false
def Yt (c:UInt8):Bool:=decide (97≤(c.toNat:Int)∧(c.toNat:Int)≤122)
def Ym (c:UInt8):Bool:=decide ((c.toNat:Int)=45∨(48≤(c.toNat:Int)∧(c.toNat:Int)≤57))
def MU (i:Nat) (c:UInt8):Bool:=Yt c||(decide (i≠0)&&Ym c)
theorem MY {i:Nat} {c:UInt8}:MU i c=true↔(97≤(c.toNat:Int)∧(c.toNat:Int)≤122)∨(i≠0∧((c.toNat:Int)=45∨(48≤(c.toNat:Int)∧(c.toNat:Int)≤57))):=by
 simp only[MU,Yt,Ym,Bool.or_eq_true,Bool.and_eq_true,decide_eq_true_eq]
def DP (l:List UInt8):Bool:=decide (1≤l.length∧l.length≤20)&&(List.range l.length).all (fun i=>MU i (l.getD i 0))
theorem GA {l:List UInt8}:DP l=true↔(1≤l.length∧l.length≤20)∧∀i,i<l.length→MU i (l.getD i 0)=true:=by
 simp only[DP,Bool.and_eq_true,decide_eq_true_eq,List.all_eq_true,List.mem_range]
theorem P0 (s:ByteArray) (k:Nat) (h:k<s.size):s.data.toList.getD k 0=s[k]:=by
 rw[List.getD_eq_getElem?_getD,List.getElem?_eq_getElem (by simpa using h)];rfl
theorem Tz (s:ByteArray):BP s.data.toList=s:=by cases s;simp[BP]
theorem SJ (l:List UInt8):(BP l).data.toList=l:=by simp[BP]
theorem TX (l:List UInt8):(BP l).size=l.length:=by show l.toArray.size=_;simp
theorem Mf {a b:Bool} (h:a=b):Ending.returned (.bool a)=.returned (.bool b):=by rw[h]
theorem X3 (s:ByteArray) (hs:s.size≤maxLen) (w:World) :
 Calls Tryz.prog 141 #[.string s] w fun e w'=>e=.returned (.bool (DP s.data.toList))∧w'=w:=by
 unfold maxLen at hs;by_cases h0:s.size<1
 · have hn:DP s.data.toList=false:=by
    rw[←Bool.not_eq_true,GA];rintro⟨⟨h1,_⟩,_⟩;have:s.data.toList.length=s.size:=by simp
    omega
   have hx:(s.size:Int)<1:=by omega
   rw[hn];clear hn;go_enter Tryz.func141,Tryz.ntmps141;go_wp2;go_ret;exact⟨rfl,rfl⟩
 have hx:¬(s.size:Int)<1:=by omega
 have hxd:decide ((s.size:Int)<1)=false:=decide_eq_false hx;by_cases h2:20<s.size
 · have hn:DP s.data.toList=false:=by
    rw[←Bool.not_eq_true,GA];rintro⟨⟨_,h1⟩,_⟩;have:s.data.toList.length=s.size:=by simp
    omega
   have hy:(20:Int)<(s.size:Int):=by omega
   have hyd:decide ((20:Int)<(s.size:Int))=true:=decide_eq_true hy;have hyd':decide (20<s.size)=true:=decide_eq_true h2;rw[hn];clear hn;go_enter Tryz.func141,Tryz.ntmps141;go_wp2;go_ret;exact⟨rfl,rfl⟩
 have hy:¬(20:Int)<(s.size:Int):=by omega
 have hyd:decide ((20:Int)<(s.size:Int))=false:=decide_eq_false hy;have hyd':decide (20<s.size)=false:=decide_eq_false h2;go_enter Tryz.func141,Tryz.ntmps141;go_wp2;go_loop [3,4,5,16] (fun s3 s4 s5 s16=>∃k:Nat,k≤s.size∧s16=.int .i64 k∧RowKit.Hid (∀i,i<k→MU i (s.data.toList.getD i 0)=true)) (fun _ _ _ i=>s.size-(intOf i).toNat)
 case atStart=>exact⟨0,Nat.zero_le _,rfl,Lib.hid (fun i hi=>absurd hi (Nat.not_lt_zero _))⟩
 obtain⟨k,hk,rfl,hN⟩:=hrel;by_cases hlt:k<s.size
 · by_cases hk0:k=0
   · subst hk0
     have hg:=P0 s 0 (by omega);have HG:=Lib.hid hg;have HI:=Lib.hid (MY (i:=0) (c:=s[0]));clear hg;go_wp2
     all_goals first
      |
      (go_round
       case rel=>exact⟨0+1,by omega,by go_num,Lib.hid (fun i hi=>by
        by_cases e:i=0
        · rw[e,HG.out,HI.out]
          first|omega|(simp only[decide_eq_true_eq,decide_eq_false_iff_not,beq_iff_eq,bne_iff_ne,beq_eq_false_iff_ne,bne_eq_false_iff_eq,ne_eq,Bool.not_eq_true,Bool.not_eq_false',Bool.not_eq_true',Bool.and_eq_true,Bool.or_eq_true,Bool.and_eq_false_imp,Bool.or_eq_false_iff,Decidable.not_not] at *;omega)|(simp only[decide_eq_true_eq,decide_eq_false_iff_not,beq_iff_eq,bne_iff_ne,beq_eq_false_iff_ne,bne_eq_false_iff_eq,ne_eq,Bool.not_eq_true,Bool.not_eq_false',Bool.not_eq_true',Bool.and_eq_true,Bool.or_eq_true,Bool.and_eq_false_imp,Bool.or_eq_false_iff,Decidable.not_not] at *;done)
        exact hN.out i (by omega))⟩
       simp[intOf];omega)
      |
      (go_ret
       refine⟨Mf ?_,rfl⟩
       symm
       rw[←Bool.not_eq_true,GA];rintro⟨_,h⟩;have h5:=h 0 (by simpa using hlt);rw[HG.out,HI.out] at h5
       first|omega|(simp only[decide_eq_true_eq,decide_eq_false_iff_not,beq_iff_eq,bne_iff_ne,beq_eq_false_iff_ne,bne_eq_false_iff_eq,ne_eq,Bool.not_eq_true,Bool.not_eq_false',Bool.not_eq_true',Bool.and_eq_true,Bool.or_eq_true,Bool.and_eq_false_imp,Bool.or_eq_false_iff,Decidable.not_not] at *;omega)|(simp only[decide_eq_true_eq,decide_eq_false_iff_not,beq_iff_eq,bne_iff_ne,beq_eq_false_iff_ne,bne_eq_false_iff_eq,ne_eq,Bool.not_eq_true,Bool.not_eq_false',Bool.not_eq_true',Bool.and_eq_true,Bool.or_eq_true,Bool.and_eq_false_imp,Bool.or_eq_false_iff,Decidable.not_not] at *;done))
   have hkd:decide ((k:Int)=0)=false:=decide_eq_false (by omega);have hke:((k:Int) == 0)=false:=by simpa using hk0
   have hg:=P0 s k (by omega);have HG:=Lib.hid hg;have HI:=Lib.hid (MY (i:=k) (c:=s[k]));clear hg;go_wp2
   all_goals first
    |
    (go_round
     case rel=>exact⟨k+1,by omega,by go_num,Lib.hid (fun i hi=>by
      by_cases e:i=k
      · rw[e,HG.out,HI.out]
        first|omega|(simp only[decide_eq_true_eq,decide_eq_false_iff_not,beq_iff_eq,bne_iff_ne,beq_eq_false_iff_ne,bne_eq_false_iff_eq,ne_eq,Bool.not_eq_true,Bool.not_eq_false',Bool.not_eq_true',Bool.and_eq_true,Bool.or_eq_true,Bool.and_eq_false_imp,Bool.or_eq_false_iff,Decidable.not_not] at *;omega)|(simp only[decide_eq_true_eq,decide_eq_false_iff_not,beq_iff_eq,bne_iff_ne,beq_eq_false_iff_ne,bne_eq_false_iff_eq,ne_eq,Bool.not_eq_true,Bool.not_eq_false',Bool.not_eq_true',Bool.and_eq_true,Bool.or_eq_true,Bool.and_eq_false_imp,Bool.or_eq_false_iff,Decidable.not_not] at *;done)
      exact hN.out i (by omega))⟩
     simp[intOf];omega)
    |
    (go_ret
     refine⟨Mf ?_,rfl⟩
     symm
     rw[←Bool.not_eq_true,GA];rintro⟨_,h⟩;have h5:=h k (by simpa using hlt);rw[HG.out,HI.out] at h5
     first|omega|(simp only[decide_eq_true_eq,decide_eq_false_iff_not,beq_iff_eq,bne_iff_ne,beq_eq_false_iff_ne,bne_eq_false_iff_eq,ne_eq,Bool.not_eq_true,Bool.not_eq_false',Bool.not_eq_true',Bool.and_eq_true,Bool.or_eq_true,Bool.and_eq_false_imp,Bool.or_eq_false_iff,Decidable.not_not] at *;omega)|(simp only[decide_eq_true_eq,decide_eq_false_iff_not,beq_iff_eq,bne_iff_ne,beq_eq_false_iff_ne,bne_eq_false_iff_eq,ne_eq,Bool.not_eq_true,Bool.not_eq_false',Bool.not_eq_true',Bool.and_eq_true,Bool.or_eq_true,Bool.and_eq_false_imp,Bool.or_eq_false_iff,Decidable.not_not] at *;done))
 go_wp2;go_ret;refine⟨Mf ?_,rfl⟩
 symm
 rw[GA];have hl:s.data.toList.length=s.size:=by simp
 exact⟨by omega,fun i hi=>hN.out i (by omega)⟩
theorem Ow.beside {w0 w w':World} {s:Nat} {σ:AD Nd} {G C:Nat→Prop} (h:Ow w0 w s σ G) (hc:Ch C w w') (hC:∀k,C k→G k∧w0.heap.size≤k):Ow w0 w' s σ G:=by
 obtain⟨F,h1,h2,h3,h4⟩:=h;exact⟨F,h1.Af hc (fun k hf hc=>(h4 k (hC k hc).1).1 hf),h2,h3.trans hc (fun k hk=>.inr (hC k hk).2),fun k hk=>⟨(h4 k hk).1,Nat.lt_of_lt_of_le (h4 k hk).2 hc.size⟩⟩
theorem Ph (m:Nat) (w:World):(binOp .eql 211 (.map (some m)) (.map none)).run Tryz.prog w=.ok (.bool false) w:=by kernel_rfl
def GF (v m:Nat) (G:Nat→Prop):Nat→Prop:=fun k=>k=v∨k=m∨G k
structure Vs (w0 w:World) (v s:Nat) (σ:AD Nd) (ν:Nms) (G:Nat→Prop):Prop where
 ex:∃m,Ow w0 w s σ (GF v m G)∧w.heap[v]?=some (.cells #[.pointer (some ⟨s,0,none⟩),.map (some m)] 213 (0,0))∧Bd w m ν.length ν∧w0.heap.size≤m∧v≠m∧¬G v∧¬G m
theorem Bd.tight {w:World} {b n:Nat} {ν:Nms} (h:Bd w b n ν):Bd w b ν.length ν:=by
 obtain⟨⟨D,⟨es,clock,hb,F,hs,hD⟩,h1,h2⟩,h3,h4⟩:=h
 have:es.size=ν.length:=by
  rw[←h1,hD];simp[Maps.size,length_sorted]
 exact⟨⟨D,⟨es,clock,hb,F,Nat.le_of_eq this,hD⟩,h1,h2⟩,h3,h4⟩
section
variable {w0 w w' : World} {v s : Nat} {σ σ' : AD Nd} {ν : Nms} {G : Nat→Prop}
theorem Vs.adds (h:Vs w0 w v s σ ν G) (a:Adds w w'):Vs w0 w' v s σ ν G:=by
 obtain⟨m,h1,h2,h3,h4⟩:=h;exact⟨m,h1.adds a,a.row h2 id,h3.Af a id,h4⟩
theorem Vs.world (h:Vs w0 w v s σ ν G):Adds w0 w:=by obtain⟨m,h1,_⟩:=h;exact h1.world
theorem Vs.ow (h:Vs w0 w v s σ ν G):Ow w0 w s σ G:=by obtain⟨m,h1,_⟩:=h;exact h1.less (fun k hk=>.inr (.inr hk))
theorem Vs.beside {C:Nat→Prop} (h:Vs w0 w v s σ ν G) (hc:Ch C w w') (hC:∀k,C k→G k∧w0.heap.size≤k):Vs w0 w' v s σ ν G:=by
 obtain⟨m,h1,h2,h3,h4,h5,h6,h7⟩:=h;exact⟨m,h1.beside hc (fun k hk=>⟨.inr (.inr (hC k hk).1),(hC k hk).2⟩),hc.row h2 (fun hk=>h6 (hC _ hk).1),h3.Af hc (fun hk=>h7 (hC _ hk).1),h4,h5,h6,h7⟩
theorem Vs.less {G':Nat→Prop} (h:Vs w0 w v s σ ν G) (hG:∀k,G' k→G k):Vs w0 w v s σ ν G':=by
 obtain⟨m,h1,h2,h3,h4,h5,h6,h7⟩:=h;exact⟨m,h1.less (fun k hk=>hk.imp id (fun h=>h.imp id (hG k))),h2,h3,h4,h5,fun h=>h6 (hG _ h),fun h=>h7 (hG _ h)⟩
theorem Vs.more {G':Nat→Prop} (h:Vs w0 w v s σ ν G) (a:Adds w w') (hG:∀k,G' k→G k∨(w.heap.size≤k∧k<w'.heap.size)):Vs w0 w' v s σ ν G':=by
 obtain⟨m,h1,h2,h3,h4,h5,h6,h7⟩:=h;have hv:=Ac h2;have hm:=h3.lt;refine⟨m,h1.more a (fun k hk=>?_),a.row h2 id,h3.Af a id,h4,h5,fun h=>?_,fun h=>?_⟩
 · rcases hk with h|h|h
   · exact .inl (.inl h)
   · exact .inl (.inr (.inl h))
   exact(hG k h).imp (fun h=>.inr (.inr h)) id
 · rcases hG _ h with h|h
   · exact h6 h
   omega
 rcases hG _ h with h|h
 · exact h7 h
 omega
theorem Vs.Ki {m:Nat} (h1:Ow w0 w' s σ' (GF v m G)) (hb:But (GF v m G) w w') (h2:w.heap[v]?=some (.cells #[.pointer (some ⟨s,0,none⟩),.map (some m)] 213 (0,0))) (h3:Bd w m ν.length ν)
 (h4:w0.heap.size≤m∧v≠m∧¬G v∧¬G m):Vs w0 w' v s σ' ν G∧But G w w' :=
 ⟨⟨m,h1,hb.row h2 (.inl rfl),h3.Af hb (fun h=>h (.inr (.inl rfl))),h4⟩,hb.mono (fun k _ hk hg=>hk (.inr (.inr hg)))⟩
theorem Vs.step (h:Vs w0 w v s σ ν G):∃m,Ow w0 w s σ (GF v m G)∧∀ {w':World} {σ':AD Nd},Ow w0 w' s σ' (GF v m G)→But (GF v m G) w w'→Vs w0 w' v s σ' ν G∧But G w w':=by
 obtain⟨m,h1,h2,h3,h4⟩:=h;exact⟨m,h1,fun ho hb=>Vs.Ki ho hb h2 h3 h4⟩
theorem Vs.Am (h:Vs w0 w v s σ ν G):Calls Tryz.prog 201 #[.pointer (some ⟨v,0,none⟩)] w fun e w'=>e=.returned (.bool false)∧w=w':=by
 obtain⟨m,h1,h2,h3,h4⟩:=h;have c1:=AH h2 (i:=1) rfl;have hq:=Ph m;clear h1 h2 h3 h4;go_enter Tryz.func201,Tryz.ntmps201;go_wp2;go_ret;exact⟨rfl,rfl⟩
theorem Vs.root (h:Vs w0 w v s σ ν G) {x:List UInt8} (hx:x.length≤maxLen) :
 Calls Tryz.prog 123 #[.pointer (some ⟨v,0,none⟩),.string (BP x)] w fun e w'=>e=.returned (if x∈ν.names then .tuple #[.int .i64 (ν.get x),.int .i64 0] else .tuple #[.int .i64 0,.int .i64 7])∧w=w':=by
 have hn:=h.Am;obtain⟨m,h1,h2,h3,h4⟩:=h;have c1:=AH h2 (i:=1) rfl;have hlk:=h3.look hx;obtain⟨c,hc⟩:∃c,c=ν.get x:=⟨_,rfl⟩
 obtain⟨S,hS⟩:∃S,S=BP x:=⟨_,rfl⟩
 rw[←hc] at hlk ⊢;rw[←hS] at hlk ⊢;have HN:=Lib.hid hn;by_cases hm:x∈ν.names
 · rw[if_pos hm]
   rw[decide_eq_true hm] at hlk;clear hn h1 h2 h3 h4 hm hx hc hS;go_enter Tryz.func123,Tryz.ntmps123;go_wp2_with fail;refine HN.out.mono ?_;rintro e w1 ⟨rfl,rfl⟩;go_wp2;go_ret2;exact⟨rfl,rfl⟩
 rw[if_neg hm];rw[decide_eq_false hm] at hlk;clear hn h1 h2 h3 h4 hm hx hc hS;go_enter Tryz.func123,Tryz.ntmps123;go_wp2_with fail;refine HN.out.mono ?_;rintro e w1 ⟨rfl,rfl⟩;go_wp2;go_ret2;exact⟨rfl,rfl⟩
theorem Vs.len (h:Vs w0 w v s σ ν G):Calls Tryz.prog 216 #[.pointer (some ⟨v,0,none⟩)] w fun e w'=>e=.returned (.int .i64 (ν.length:Nat))∧w=w':=by
 have hn:=h.Am;obtain⟨m,h1,h2,h3,h4⟩:=h;have c1:=AH h2 (i:=1) rfl;have hlk:=h3.count;obtain⟨c,hc⟩:∃c,c=ν.length:=⟨_,rfl⟩
 rw[←hc] at hlk ⊢;have HN:=Lib.hid hn;clear hn h1 h2 h3 h4 hc;go_enter Tryz.func216,Tryz.ntmps216;go_wp2_with fail;refine HN.out.mono ?_;rintro e w1 ⟨rfl,rfl⟩;go_wp2;go_ret;exact⟨rfl,rfl⟩
def Jn (σ:AD Nd) (root:Int):AD Nd:=if root=0 then σ else (BI σ root).2
def Is (σ:AD Nd) (root:Int):AD Nd:=if root=0 then σ else (An σ root).2.2
theorem Vs.hold (h:Vs w0 w v s σ ν G) (root:Int) (hok:root≠0→(BI σ root).1=0) :
 Calls Tryz.prog 217 #[.pointer (some ⟨v,0,none⟩),.int .i64 root] w fun e w'=>e=.returned (.int .i64 0)∧Vs w0 w' v s (Jn σ root) ν G∧But G w w':=by
 by_cases h0:root=0
 · subst h0
   have H:=Lib.hid h;clear h hok;go_enter Tryz.func217,Tryz.ntmps217;go_wp2;go_ret;exact⟨rfl,H.out,Ch.refl _ _⟩
 have hb:Jn σ root=(BI σ root).2:=by unfold Jn;rw[if_neg h0]
 have hc:=hok h0;obtain⟨m,h1,h2,h3,h4⟩:=h;have c0:=AH h2 (i:=0) rfl;have ho:=h1.hold root;rw[hc, ←hb] at ho;have hx:¬root=0:=h0;have hxd:decide (root=0)=false:=decide_eq_false h0;have HO:=Lib.hid ho;have HV:=(hIq h2 (aIq h3 h4))
 clear h1 h2 h3 h4 ho hb hc hok h0;go_enter Tryz.func217,Tryz.ntmps217;go_wp2_with fail;refine HO.out.mono ?_;rintro e w1 ⟨rfl,o1,b1⟩;have H1:=Lib.hid (Vs.Ki o1 b1 HV.out.1 HV.out.2.1 HV.out.2.2);clear o1 b1 c0;go_wp2;go_ret;exact⟨rfl,H1.out⟩
theorem Vs.drop (h:Vs w0 w v s σ ν G) (root:Int) :
 Calls Tryz.prog 218 #[.pointer (some ⟨v,0,none⟩),.int .i64 root] w fun e w'=>e=.returned (.int .i64 (if root=0 then 0 else (An σ root).1))∧Vs w0 w' v s (Is σ root) ν G∧But G w w':=by
 by_cases h0:root=0
 · subst h0
   have H:=Lib.hid h;clear h;go_enter Tryz.func218,Tryz.ntmps218;go_wp2;go_ret;exact⟨rfl,H.out,Ch.refl _ _⟩
 have hb:Is σ root=(An σ root).2.2:=by unfold Is;rw[if_neg h0]
 rw[if_neg h0];obtain⟨m,h1,h2,h3,h4⟩:=h;have c0:=AH h2 (i:=0) rfl;have ho:=h1.drop root;rw[←hb] at ho;obtain⟨n,hn⟩:∃n,n=(An σ root).1:=⟨_,rfl⟩
 obtain⟨n2,hn2⟩:∃n,n=(An σ root).2.1:=⟨_,rfl⟩
 rw[←hn, ←hn2] at ho;rw[←hn];have hx:¬root=0:=h0;have hxd:decide (root=0)=false:=decide_eq_false h0;have HO:=Lib.hid ho;have HV:=(hIq h2 (aIq h3 h4))
 clear h1 h2 h3 h4 ho hb hn hn2 h0;go_enter Tryz.func218,Tryz.ntmps218;go_wp2_with fail;refine HO.out.mono ?_;rintro e w1 ⟨rfl,o1,b1⟩;have H1:=Lib.hid (Vs.Ki o1 b1 HV.out.1 HV.out.2.1 HV.out.2.2);clear o1 b1 c0;go_wp2;go_ret;exact⟨rfl,H1.out⟩
def Ep (σ:AD Nd) (ν:Nms) (x:List UInt8) (root:Int):Int:=if DP x=false then 5 else if BS σ root≠0 then BS σ root else if x∈ν.names then 6 else if 16≤ν.length then 8 else 0
theorem Ob (x:List UInt8) (hx:x.length≤maxLen) (w:World):Calls Tryz.prog 141 #[.string (BP x)] w fun e w'=>e=.returned (.bool (DP x))∧w=w':=by
 have:=X3 (BP x) (by rw[TX];exact hx) w;rw[SJ] at this;exact this.mono fun e w' ⟨h1,h2⟩=>⟨h1,h2.symm⟩
theorem Vs.aJ (h:Vs w0 w v s σ ν G) {x:List UInt8} (hx:x.length≤maxLen) (root:Int) (hc:Ep σ ν x root≠0) :
 Calls Tryz.prog 145 #[.pointer (some ⟨v,0,none⟩),.string (BP x),.int .i64 root] w fun e w'=>e=.returned (.int .i64 (Ep σ ν x root))∧Adds w w':=by
 have hn:=h.Am;obtain⟨m,h1,h2,h3,h4⟩:=h;have c0:=AH h2 (i:=0) rfl;have c1:=AH h2 (i:=1) rfl;have hlk:=h3.look hx;have hct:=fun w1 (a:Adds w w1)=>(h3.Af a id).count
 have hnm:=Ob x hx;obtain⟨F,hF⟩:=h1.at;have hrt:=Store.Eb hF root;have k1:=fun w1 (a:Adds w w1)=>AH (a.row h2 id) (i:=1) rfl
 unfold Ep at hc ⊢;obtain⟨c,hcc⟩:∃c,c=ν.get x:=⟨_,rfl⟩
 obtain⟨S,hS⟩:∃S,S=BP x:=⟨_,rfl⟩
 obtain⟨re,hre⟩:∃re,re=BS σ root:=⟨_,rfl⟩
 obtain⟨nb,hnb⟩:∃nb,nb=DP x:=⟨_,rfl⟩
 obtain⟨len,hlen⟩:∃len,len=ν.length:=⟨_,rfl⟩
 rw[←hcc] at hlk;rw[←hS] at hlk hnm ⊢;rw[←hre] at hrt hc ⊢;rw[←hnb] at hnm hc ⊢;rw[←hlen] at hct hc ⊢;have HN:=Lib.hid hn;have HNM:=Lib.hid hnm;have HRT:=Lib.hid hrt;have HCT:=(hIq hct k1)
 clear hn h1 h2 h3 h4 hx hcc hS hre hnb hnm hF hrt hct k1 hlen;obtain⟨there,hth⟩:∃b,b=decide (x∈ν.names):=⟨_,rfl⟩
 rw[←hth] at hlk;cases nb with
 | false =>
  clear hc hth;rw[if_pos rfl];go_enter Tryz.func145,Tryz.ntmps145;go_wp2_with fail;refine HN.out.mono ?_;rintro e w1 ⟨rfl,rfl⟩;go_wp2_with fail;refine HRT.out.mono ?_;rintro e w2 ⟨rfl,a2⟩;have A2:=Lib.hid a2;clear a2;go_wp2_with fail;refine(HNM.out _).mono ?_;rintro e w3 ⟨rfl,rfl⟩;go_wp2;go_ret;exact⟨rfl,A2.out⟩
 | true =>
  rw[if_neg (by decide)] at hc ⊢;by_cases hr0:re=0
  · subst hr0
    rw[if_neg (by decide)] at hc ⊢;by_cases hin:x∈ν.names
    · rw[if_pos hin]
      rw[decide_eq_true hin] at hth;subst hth;clear hc hin;go_enter Tryz.func145,Tryz.ntmps145;go_wp2_with fail;refine HN.out.mono ?_;rintro e w1 ⟨rfl,rfl⟩;go_wp2_with fail;refine HRT.out.mono ?_;rintro e w2 ⟨rfl,a2⟩;have A2:=Lib.hid a2;clear a2;go_wp2_with fail;refine(HNM.out _).mono ?_;rintro e w3 ⟨rfl,rfl⟩;go_wp2;go_ret;exact⟨rfl,A2.out⟩
    rw[if_neg hin] at hc ⊢;rw[decide_eq_false hin] at hth;subst hth
    have h16:16≤len:=by
     by_cases e:16≤len
     · exact e
     rw[if_neg e] at hc;exact absurd rfl hc
    rw[if_pos h16];have h16d:decide ((16:Int)≤(len:Int))=true:=decide_eq_true (by omega);have h16e:decide (16≤len)=true:=decide_eq_true h16;clear hc hin h16;go_enter Tryz.func145,Tryz.ntmps145;go_wp2_with fail;refine HN.out.mono ?_;rintro e w1 ⟨rfl,rfl⟩;go_wp2_with fail;refine HRT.out.mono ?_;rintro e w2 ⟨rfl,a2⟩;have A2:=Lib.hid a2;have hcn:=HCT.out.1 _ a2;have d1:=HCT.out.2 _ a2;clear a2;go_wp2_with fail;refine(HNM.out _).mono ?_;rintro e w3 ⟨rfl,rfl⟩;go_wp2;go_ret;exact⟨rfl,A2.out⟩
  rw[if_pos hr0];have hrn:(re != 0)=true:=by simpa using hr0
  have hrn':(re == 0)=false:=by simpa using hr0
  have hrd:decide (re=0)=false:=decide_eq_false hr0;clear hc hth;go_enter Tryz.func145,Tryz.ntmps145;go_wp2_with fail;refine HN.out.mono ?_;rintro e w1 ⟨rfl,rfl⟩;go_wp2_with fail;refine HRT.out.mono ?_;rintro e w2 ⟨rfl,a2⟩;have A2:=Lib.hid a2;clear a2;go_wp2_with fail;refine(HNM.out _).mono ?_;rintro e w3 ⟨rfl,rfl⟩;go_wp2;go_ret;exact⟨rfl,A2.out⟩
theorem Vs.add (h:Vs w0 w v s σ ν G) {x:List UInt8} (hx:x.length≤maxLen) {root:Int} (hc:Ep σ ν x root=0) (hh:root≠0→(BI σ root).1=0) (hwf:(Lit.int .i64 root).wf=true) :
 Calls Tryz.prog 145 #[.pointer (some ⟨v,0,none⟩),.string (BP x),.int .i64 root] w fun e w'=>e=.returned (.int .i64 0)∧Vs w0 w' v s (Jn σ root) (ν.set x root) G∧But G w w':=by
 have hnm1:DP x=true:=by
  cases e:DP x with
  | true=>rfl
  | false=>unfold Ep at hc;rw[if_pos e] at hc;exact absurd hc (by decide)
 have hre1:BS σ root=0:=by
  by_cases e:BS σ root=0
  · exact e
  unfold Ep at hc;rw[if_neg (by rw[hnm1];decide),if_pos e] at hc;exact absurd hc e
 have hin:x∉ν.names:=fun e=>by
  unfold Ep at hc;rw[if_neg (by rw[hnm1];decide),if_neg (by simpa using hre1),if_pos e] at hc;exact absurd hc (by decide)
 have h16:¬16≤ν.length:=fun e=>by
  unfold Ep at hc;rw[if_neg (by rw[hnm1];decide),if_neg (by simpa using hre1),if_neg hin,if_pos e] at hc;exact absurd hc (by decide)
 have hn:=h.Am;have hhold:=fun w1 (a:Adds w w1)=>(h.adds a).hold root hh
 obtain⟨m,h1,h2,h3,h4⟩:=h;have c0:=AH h2 (i:=0) rfl;have c1:=AH h2 (i:=1) rfl;have hlk:=h3.look hx;rw[decide_eq_false hin] at hlk;have hct:=fun w1 (a:Adds w w1)=>(h3.Af a id).count
 have hnm:=Ob x hx;rw[hnm1] at hnm;obtain⟨F,hF⟩:=h1.at;have hrt:=Store.Eb hF root;rw[hre1] at hrt;have k1:=fun w1 (a:Adds w w1)=>AH (a.row h2 id) (i:=1) rfl
 obtain⟨c,hcc⟩:∃c,c=ν.get x:=⟨_,rfl⟩
 obtain⟨S,hS⟩:∃S,S=BP x:=⟨_,rfl⟩
 obtain⟨len,hlen⟩:∃len,len=ν.length:=⟨_,rfl⟩
 rw[←hcc] at hlk;rw[←hS] at hlk hnm ⊢;rw[←hlen] at hct;have h16d:decide ((16:Int)≤(len:Int))=false:=decide_eq_false (by omega);have h16e:decide (16≤len)=false:=decide_eq_false (by omega);have hput:=fun w1 m1 (hq:Bd w1 m1 ν.length ν)=>hq.put (by unfold maxLen;omega) hx hwf
 rw[←hS] at hput;have HN:=Lib.hid hn;have HNM:=Lib.hid hnm;have HRT:=Lib.hid hrt;have HCT:=(hIq hct k1)
 have HH:=Lib.hid hhold;have HPUT:=Lib.hid hput;clear hn h1 h2 h3 h4 hx hcc hS hnm hF hrt hct k1 hlen hc hh hwf hnm1 hre1 hin h16 hhold hput;go_enter Tryz.func145,Tryz.ntmps145;go_wp2_with fail;refine HN.out.mono ?_;rintro e w1 ⟨rfl,rfl⟩;go_wp2_with fail;refine HRT.out.mono ?_;rintro e w2 ⟨rfl,a2⟩;have A2:=Lib.hid a2;have hcn:=HCT.out.1 _ a2;have d1:=HCT.out.2 _ a2;clear a2;go_wp2_with fail;refine(HNM.out _).mono ?_;rintro e w3 ⟨rfl,rfl⟩;go_wp2_with fail;refine(HH.out _ A2.out).mono ?_;rintro e w4 ⟨rfl,h4,b4⟩;have B4:=Lib.hid b4;obtain⟨m4,g1,g2,g3,g4,g5,g6,g7⟩:=h4;obtain⟨w5,hup,n5,ch5⟩:=HPUT.out _ _ g3;have e1:=AH g2 (i:=1) rfl;have ch5':Ch (fun k=>k=m4) w4 w5:=ch5
 have H5:RowKit.Hid (Vs w0 w5 v s (Jn σ root) (ν.set x root) G∧But G w w5):=Lib.hid
  ⟨⟨m4,g1.beside ch5 (fun k hk=>by obtain rfl:k=m4:=hk;exact⟨.inr (.inl rfl),g4⟩),ch5.row g2 (fun e=>g5 e),n5.tight,g4,g5,g6,g7⟩,
   (A2.out.but.then B4.out).then (ch5.mono (fun k _ hk hg=>by obtain rfl:k=m4:=hk;exact g7 hg))⟩
 clear b4 g1 g2 g3 g4 g5 g6 g7 n5 ch5 ch5' c0 c1 d1 hlk hcn h16d h16e;go_wp2;go_ret;exact⟨rfl,H5.out⟩
theorem Vs.cut (h:Vs w0 w v s σ ν G) {x:List UInt8} (hx:x.length≤maxLen) (hin:x∈ν.names) {root:Int} (hr:ν.get x=root) :
 Calls Tryz.prog 146 #[.pointer (some ⟨v,0,none⟩),.string (BP x)] w fun e w'=>e=.returned (.tuple #[.int .i64 (if root=0 then 0 else (An σ root).1),.int .i64 0])∧Vs w0 w' v s (Is σ root) (ν.cut x) G∧But G w w':=by
 have hrt:=h.root hx;rw[if_pos hin,hr] at hrt;obtain⟨m,h1,h2,h3,h4,h5,h6,h7⟩:=h;have c1:=AH h2 (i:=1) rfl;obtain⟨w2,hdel,n2,ch2⟩:=h3.drop hx 0;have hV2:Vs w0 w2 v s σ (ν.cut x) G:=⟨m,h1.beside ch2 (fun k hk=>by obtain rfl:k=m:=hk;exact⟨.inr (.inl rfl),h4⟩),ch2.row h2 (fun e=>h5 e),n2.tight,h4,h5,h6,h7⟩
 have hB2:But G w w2:=ch2.mono (fun k _ hk hg=>by obtain rfl:k=m:=hk;exact h7 hg);have hdr:=hV2.drop root;obtain⟨S,hS⟩:∃S,S=BP x:=⟨_,rfl⟩
 rw[←hS] at hrt hdel ⊢;obtain⟨n,hn⟩:∃n:Int,n=if root=0 then 0 else (An σ root).1:=⟨_,rfl⟩
 rw[←hn] at hdr ⊢;have HRT:=Lib.hid hrt;have HDR:=Lib.hid hdr;have HB:=Lib.hid hB2;clear hrt h1 h2 h3 h4 h5 h6 h7 n2 ch2 hV2 hB2 hdr hS hn hx hin hr;go_enter Tryz.func146,Tryz.ntmps146;go_wp2_with fail;refine HRT.out.mono ?_;rintro e w1 ⟨rfl,rfl⟩;go_wp2_with fail;refine HDR.out.mono ?_;rintro e w3 ⟨rfl,v3,b3⟩;have H3:=(hIq v3 (HB.out.then b3))
 clear v3 b3 c1 hdel;go_wp2;go_ret2;exact⟨rfl,H3.out⟩
theorem Vs.aS (h:Vs w0 w v s σ ν G) {x:List UInt8} (hx:x.length≤maxLen) (hin:x∉ν.names) :
 Calls Tryz.prog 146 #[.pointer (some ⟨v,0,none⟩),.string (BP x)] w fun e w'=>e=.returned (.tuple #[.int .i64 0,.int .i64 7])∧w=w':=by
 have hrt:=h.root hx;rw[if_neg hin] at hrt;have HRT:=Lib.hid hrt;obtain⟨S,hS⟩:∃S,S=BP x:=⟨_,rfl⟩
 rw[←hS] at HRT ⊢;clear h hrt hx hin hS;go_enter Tryz.func146,Tryz.ntmps146;go_wp2_with fail;refine HRT.out.mono ?_;rintro e w1 ⟨rfl,rfl⟩;go_wp2;go_ret2;exact⟨rfl,rfl⟩
theorem XH (h:Ow w0 w s σ G) (hr:1≤σ.room):Calls Tryz.prog 46 #[.pointer (some ⟨s,0,none⟩)] w fun e w'=>∃v,e=.returned (.tuple #[.pointer (some ⟨v,0,none⟩),.int .i64 0])∧Vs w0 w' v s σ [] G∧Adds w w'∧w.heap.size≤v:=by
 obtain⟨F,hF⟩:=h.at;have hrm:=Fc hF;obtain⟨rm,hrm'⟩:∃rm,rm=σ.room:=⟨_,rfl⟩
 rw[←hrm'] at hrm hr;have hx:¬(rm:Int)=0:=by omega
 have hxd:decide ((rm:Int)=0)=false:=decide_eq_false hx;have hxe:decide (rm=0)=false:=decide_eq_false (by omega);have hmm:=@run_makeMap Tryz.prog;obtain⟨w1,hw1⟩:∃w1,w1=w.alloc (.map #[] 0):=⟨_,rfl⟩
 obtain⟨w2,hw2⟩:∃w2,w2=w1.alloc (.cells #[.pointer (some ⟨s,0,none⟩),.map (some w.heap.size)] 213):=⟨_,rfl⟩
 have a1:Adds w w1:=by rw[hw1];exact(Ch.refl _ _).alloc _
 have a2:Adds w1 w2:=by rw[hw2];exact(Ch.refl _ _).alloc _
 have s1:w1.heap.size=w.heap.size+1:=by rw[hw1];simp
 have s2:w2.heap.size=w1.heap.size+1:=by rw[hw2];simp
 have hG:∀k,G k→k<w.heap.size:=by obtain⟨_,_,_,_,h4⟩:=h;exact fun k hk=>(h4 k hk).2
 have hn:Bd w1 w.heap.size 0 []:=by rw[hw1];exact Bd.made w
 have hw0:=h.world.size
 have hV:Vs w0 w2 w1.heap.size s σ [] G:=by
  refine⟨w.heap.size,h.more (a1.trans a2 (fun _=>fEq)) (fun k hk=>?_),by rw[hw2];exact heap_alloc_new _ _,(hn.Af a2 id),hw0,by omega,fun h=>by have:=hG _ h;omega,fun h=>by have:=hG _ h;omega⟩;rcases hk with h|h|h
  · right;omega
  · right;omega
  exact .inl h
 have HV:=(hIq hV (aIq (a1.trans a2 (fun _=>fEq)) (show w.heap.size≤w1.heap.size by omega)))
 have HRM:=Lib.hid hrm;have HW1:=Lib.hid hw1;have HW2:=Lib.hid hw2;clear h hF hrm hrm' hr a1 a2 s1 s2 hG hn hw0 hV hw1 hw2;go_enter Tryz.func46,Tryz.ntmps46;go_wp2_with fail;refine HRM.out.mono ?_;rintro e w3 ⟨rfl,rfl⟩;go_wp2_with fail;rw[←HW1.out];go_ret2;rw[←HW2.out]
 first
  | exact⟨_,rfl,HV.out⟩
  | (refine⟨w1.heap.size,?_,HV.out⟩;rw[HW1.out];simp)
end
end Go.Proofs.YtngbdbpofifimaaGreat.Store
namespace Go.Proofs.YtngbdbpofifimaaGreat
open Go.Shelf
def K7:Go.Shelf.Ren:=⟨fun|192=>219|190=>254|125=>253|258=>287|128=>285|129=>286|302=>314|303=>315|304=>316|305=>317|306=>318|307=>319|308=>320|309=>321|310=>322|333=>341|329=>310|330=>311|334=>342|335=>343|336=>344|344=>349|n=>n,fun|31=>137|0=>0|9=>9|3=>3|46=>216|51=>332|53=>339|4=>4|183=>368|182=>367|131=>302|5=>5|218=>387|222=>391|228=>408|229=>226|n=>n,fun|n=>n⟩
theorem Kq:Go.Proofs.Lays.n192 Tryz.prog K7 := {
 mixed:=by kernel_rfl
 f125:=Tryz.func253.trans (congrArg some (by kernel_rfl))
 f128:=Tryz.func285.trans (congrArg some (by kernel_rfl))
 f129:=Tryz.func286.trans (congrArg some (by kernel_rfl))
 f190:=Tryz.func254.trans (congrArg some (by kernel_rfl))
 f192:=Tryz.func219.trans (congrArg some (by kernel_rfl))
 f258:=Tryz.func287.trans (congrArg some (by kernel_rfl))
 f302:=Tryz.func314.trans (congrArg some (by kernel_rfl))
 f303:=Tryz.func315.trans (congrArg some (by kernel_rfl))
 f304:=Tryz.func316.trans (congrArg some (by kernel_rfl))
 f305:=Tryz.func317.trans (congrArg some (by kernel_rfl))
 f306:=Tryz.func318.trans (congrArg some (by kernel_rfl))
 f307:=Tryz.func319.trans (congrArg some (by kernel_rfl))
 f308:=Tryz.func320.trans (congrArg some (by kernel_rfl))
 f309:=Tryz.func321.trans (congrArg some (by kernel_rfl))
 f310:=Tryz.func322.trans (congrArg some (by kernel_rfl))
 f329:=Tryz.func310.trans (congrArg some (by kernel_rfl))
 f330:=Tryz.func311.trans (congrArg some (by kernel_rfl))
 f333:=Tryz.func341.trans (congrArg some (by kernel_rfl))
 f334:=Tryz.func342.trans (congrArg some (by kernel_rfl))
 f335:=Tryz.func343.trans (congrArg some (by kernel_rfl))
 f336:=Tryz.func344.trans (congrArg some (by kernel_rfl))
 f344:=Tryz.func349.trans (congrArg some (by kernel_rfl))
 t0:=Tryz.underlying0
 a0:=Tryz.isAgg0
 z0:=Tryz.sizeOf0
 v0:=Tryz.zeroValue0
 t3:=Tryz.underlying3
 a3:=Tryz.isAgg3
 z3:=Tryz.sizeOf3
 v3:=Tryz.zeroValue3
 t4:=Tryz.underlying4
 a4:=Tryz.isAgg4
 z4:=Tryz.sizeOf4
 v4:=Tryz.zeroValue4
 t5:=Tryz.underlying5
 a5:=Tryz.isAgg5
 z5:=Tryz.sizeOf5
 v5:=Tryz.zeroValue5
 t9:=Tryz.underlying9
 a9:=Tryz.isAgg9
 z9:=Tryz.sizeOf9
 v9:=Tryz.zeroValue9
 t31:=Tryz.underlying137
 a31:=Tryz.isAgg137
 z31:=Tryz.sizeOf137
 v31:=Tryz.zeroValue137
 t46:=Tryz.underlying216
 a46:=Tryz.isAgg216
 z46:=Tryz.sizeOf216
 v46:=Tryz.zeroValue216
 t51:=Tryz.underlying332
 a51:=Tryz.isAgg332
 z51:=Tryz.sizeOf332
 v51:=Tryz.zeroValue332
 t53:=Tryz.underlying339
 a53:=Tryz.isAgg339
 z53:=Tryz.sizeOf339
 v53:=Tryz.zeroValue339
 t131:=Tryz.underlying302
 a131:=Tryz.isAgg302
 z131:=Tryz.sizeOf302
 v131:=Tryz.zeroValue302
 t182:=Tryz.underlying367
 a182:=Tryz.isAgg367
 z182:=Tryz.sizeOf367
 v182:=Tryz.zeroValue367
 t183:=Tryz.underlying368
 a183:=Tryz.isAgg368
 z183:=Tryz.sizeOf368
 v183:=Tryz.zeroValue368
 t218:=Tryz.underlying387
 a218:=Tryz.isAgg387
 z218:=Tryz.sizeOf387
 v218:=Tryz.zeroValue387
 t222:=Tryz.underlying391
 a222:=Tryz.isAgg391
 z222:=Tryz.sizeOf391
 v222:=Tryz.zeroValue391
 t228:=Tryz.underlying408
 a228:=Tryz.isAgg408
 z228:=Tryz.sizeOf408
 v228:=Tryz.zeroValue408
 t229:=Tryz.underlying226
 a229:=Tryz.isAgg226
 z229:=Tryz.sizeOf226
 v229:=Tryz.zeroValue226 }
end Go.Proofs.YtngbdbpofifimaaGreat
namespace Go.Proofs.YtngbdbpofifimaaGreat.Store
open Go.RowKit Go.Sort Go.Proofs.YtngbdbpofifimaaGreat.ShaW Go.Proofs.YtngbdbpofifimaaGreat.Path
theorem bC:∃i,Tryz.prog.info? 9=some i∧i.zero=some (.string ByteArray.empty)∧i.size=1∧i.bytes=16:=by
 obtain⟨i,h1,h2,h3,h4⟩:=info_parts (P:=Tryz.prog) (e:=9) (z:=.string ByteArray.empty) (size:=1) (bytes:=16) (by kernel_rfl);exact⟨i,h1,h2,h3,h4⟩
theorem WC {w:World} {base:Nat} {q:Value} {ss:List (List UInt8)} (h:w.ownsRow base 9 1 q ss.length (ss.map encStr)) (hs:ss.length<4611686018427387904) :
 Calls Tryz.prog 219 #[q] w fun e w'=>e=.returned (.tuple #[])∧w'.ownsRow base 9 1 q ss.length ((ss.mergeSort leB).map encStr)∧w.grownBy w' q.ownBlock:=by
 rcases h.2 with⟨hnil,h0⟩|⟨g,cap,cur,rfl,hbase,hb,h1,h2,h3,h4⟩
 · subst hnil
   have hs0:ss = []:=List.eq_nil_of_length_eq_zero h0;subst hs0;refine(Any.sort_Strings_none Kq none 0 w).mono fun e w' hw=>?_
   obtain⟨he,rfl⟩:=hw;exact⟨he,by simpa using World.ownsRow_nil w' base 9 1,⟨rfl,rfl,rfl,Nat.le_refl _,fun _ _ _=>rfl⟩⟩
 have hH:=holds_of_block hb (by simpa using h4);refine(Any.sort_Strings Kq g 0 cap ss w hH (Array.getElem?_eq_some_iff.1 hb).1 hs).mono fun e w' ⟨he,n,os,hw⟩=>⟨he,?_,?_⟩
 · rw[hw]
   exact ownsRow_sorted (by simp) hbase hb h1 h2 h3
 rw[hw];exact grownBy_sorted _
section
variable {w0 w : World} {v s : Nat} {σ : AD Nd} {ν : Nms} {G : Nat→Prop}
def GX (ν:Nms):List (List UInt8):=ν.names.mergeSort leB
theorem Jm (ν:Nms):(GX ν).length=ν.length:=by simp[GX,Nms.names]
theorem Tq {ν:Nms} {x:List UInt8}:x∈GX ν↔x∈ν.names:=by simp[GX]
theorem Vs.WR (h:Vs w0 w v s σ ν G) (hl:ν.length≤65536) :
 Calls Tryz.prog 147 #[.pointer (some ⟨v,0,none⟩)] w fun e w'=>∃q,e=.returned q∧w'.ownsRow w.heap.size 9 1 q ν.length ((GX ν).map encStr)∧Adds w w':=by
 have hn:=h.Am;obtain⟨m,h1,h2,h3,h4⟩:=h;have c1:=AH h2 (i:=1) rfl;have hml:=h3.lt;obtain⟨⟨D,hown,hsz,hhas⟩,hnd,hlen⟩:=h3;obtain⟨i0,p1,p2,p3,p4⟩:=bC;have HI:=(hIq p1 (aIq p2 (aIq p3 p4)))
 obtain⟨N,hN⟩:∃N,N=Maps.size D:=⟨_,rfl⟩
 have HN:=Lib.hid hn;have HS:=(hIq hsz (aIq hN hl))
 have HH:=(hIq hhas hnd)
 have hN6:N≤65536:=by omega
 clear h1 h2 h4 hn hsz hhas hnd hlen p1 p2 p3 p4 hl hN;go_enter Tryz.func147,Tryz.ntmps147;go_wp2_with fail;refine HN.out.mono ?_;rintro e w1 ⟨rfl,rfl⟩
 go_wp2_with (first
  | fail
  | (at_range;refine wpList_range_own _ rfl _ 211 rfl 9 3 Pm Tryz.underlying211 Lw m ν.length D rfl hown ?_;intro w2 hrg0 hg0 hs0))
 try go_frame
 have hA0:Adds w w2:=(Ch.refl _ _).grown hg0 (fun _ h=>by cases h);rw[←HS.out.2.1] at hrg0;have HR0:=(hIq hrg0 hA0)
 clear hrg0 hg0 hs0 hA0 hown
 go_loopg [3,4] N (fun g s3 s4 wr=>∃(left:Lit→Bool) (ss:List (List UInt8)) (qo:Option Addr) (qc:Nat),s3=.slice qo ss.length qc∧wr.ranges Tryz.prog 9 Lw m w.heap.size ν.length D left g∧Collected D left ss ∧
  wr.ownsRow w.heap.size 9 1 (.slice qo ss.length qc) ss.length (ss.map encStr)∧Adds w wr∧ss.length+g≤N)
 case atStart=>exact⟨_,[],none,0,rfl,HR0.out.1,Collected.start D,World.ownsRow_nil _ _ _ _,HR0.out.2,by simp⟩
 obtain⟨left,ss,qo,qc,rfl,hrg,hC,hown,hA,hcn⟩:=hrel;obtain⟨sl,hsl⟩:∃sl,sl=ss.length:=⟨_,rfl⟩
 rw[←hsl] at hown hcn ⊢;have hsl6:sl≤65536:=by omega
 have HC:=(hIq hC (aIq hown (aIq hA (aIq hcn hsl))))
 clear hC hown hA HR0 hsl
 go_wp2_with (first
  | fail
  | (at_next;refine wpList_next_ranges _ rfl _ rfl 9 Pm Lw encStr (Value.int .i64) (fun key kl hk=>by obtain⟨x,hx,_⟩:=Maps.keyOf_str Tryz.underlying9 hk;exact⟨x,hx⟩) (fun u y hv=>by obtain⟨c,rfl,_⟩:=plainElem_int_inv Tryz.underlying3 hv;exact⟨c,rfl⟩) m w.heap.size ν.length D left _ rfl hrg ?_ ?_))
 · intro _ hl0
   have HL0:=Lib.hid hl0;clear hl0 hrg;have hso:=fun w3 (a:Adds wr w3)=>WC (w:=w3) (ss:=ss) (base:=w.heap.size) (q:=.slice qo ss.length qc) (by have:=HC.out.2.1;rw[HC.out.2.2.2.2] at this;exact a.owns this (fun _ _ h=>h)) (by have:=HC.out.2.2.2.2;omega)
   rw[←HC.out.2.2.2.2] at hso;have HSO:=Lib.hid hso;clear hso;go_wp2_with fail;refine(HSO.out _ (Ch.refl _ _)).mono ?_;rintro e w3 ⟨rfl,o3,g3⟩
   have H3:RowKit.Hid (w3.ownsRow w.heap.size 9 1 (.slice qo sl qc) ν.length ((GX ν).map encStr)∧Adds w w3):=Lib.hid (by
    have hp:ss.Perm ν.names:=by
     refine(List.perm_ext_iff_of_nodup HC.out.1.1 HH.out.2).2 fun x=>?_
     rw[HC.out.1.2 x,HL0.out,(HH.out.1 x).1];simp
    have hll:sl=ν.length:=by
     have:=hp.length_eq;rw[HC.out.2.2.2.2,this];simp[Nms.names]
    have hmg:ss.mergeSort leB=GX ν:=mergeSort_of_perm hp;rw[hmg] at o3;refine⟨by rw[←hll];exact o3,HC.out.2.2.1.grown g3 (fun k hk=>.inr ?_)⟩;exact(HC.out.2.1.lt k hk).1)
   clear o3 g3;go_wp2;go_ret;exact⟨_,rfl,H3.out⟩
 intro x c kl yd yp w2 cnt2 hkey hlk hv hat hrg2 hlt hg2 hs2 hen;obtain⟨x',ex,rfl,hxl⟩:=Maps.keyOf_str Tryz.underlying9 hkey;obtain rfl:x=x':=encStr_inj ex;have hA2:Adds w w2:=HC.out.2.2.1.grown hg2 (fun k hk=>.inr (by cases hk;exact Nat.le_refl _))
 have own2:w2.ownsRow w.heap.size 9 1 (.slice qo sl qc) sl (ss.map encStr):=HC.out.2.1.kept hg2 (by
  rcases hq:(Value.slice qo sl qc).ownBlock with _|k
  · exact .inl rfl
  exact .inr (fun e=>row_ne_iter HC.out.2.1 hrg (by rw[hq];exact e.symm)))
 have hC2:=HC.out.1.step hlk hat;have H2:=(hIq hA2 (aIq own2 (aIq hC2 (aIq hrg2 hlt))))
 obtain⟨S,hS⟩:∃S,S=BP x:=⟨_,rfl⟩
 have hen':(Instr.entry (.pointer (some ⟨w.heap.size,0,none⟩))).run Tryz.prog w2=.ok (.tuple #[.string S,.int .i64 c]) w2:=by rw[hS];exact hen
 have HSS:=Lib.hid hS;have HX:=Lib.hid (show encStr x=.string S by rw[hS];rfl);clear hen hs2 hg2 hrg2 hlt hC2 own2 hA2 hrg hkey hlk hv hat hxl ex hS
 go_wp2_with (first
  | fail
  | (at_builtin;refine wpList_append_own _ rfl _ _ 137 rfl w.heap.size 9 i0 (.string ByteArray.empty) 1 16 Tryz.underlying137 HI.out.1 HI.out.2.1 HI.out.2.2.1 HI.out.2.2.2 rfl (by decide) (.slice qo sl qc) sl (ss.map encStr) rfl (H2.out.2.1.alloc _) ⟨w2.heap.size,0,none⟩ 1 1 [.string S] rfl rfl (Cc (cs:=#[.string S]) (t:=9) (fr:=(0,0)) (BG _ _ _ (by simp))) (by simp[Value.oneCell']) (by unfold maxLen;omega) (by omega) (by have:=H2.out.1.size;simp;omega) ?_;intro v' w4 own' grow' nil'))
 obtain⟨vo,vc,rfl⟩:=Aj own'
 have H4:RowKit.Hid (w4.ranges Tryz.prog 9 Lw m w.heap.size ν.length D (fun z=>left z && !z.sameKey (.string x)) cnt2∧w4.ownsRow w.heap.size 9 1 (.slice vo (sl+1) vc) (sl+1) (ss.map encStr ++ [.string S])∧Adds w w4):=Lib.hid ⟨
  ((H2.out.2.2.2.1.kept (row:=none) (World.grownBy_alloc w2 _ none) (by simp) (by simp)).kept grow' (row_ne_low H2.out.2.1 hml) (row_ne_iter H2.out.2.1 H2.out.2.2.2.1)),own',
  (H2.out.1.alloc _).grown grow' (fun k hk=>.inr ((H2.out.2.1.lt k hk).1))⟩
 clear own' grow' nil';go_wp2;go_roundg cnt2
 case measure=>exact H2.out.2.2.2.2
 refine⟨_,ss ++ [x],vo,vc,?_,H4.out.1,H2.out.2.2.1,?_,H4.out.2.2,?_⟩
 · rw[List.length_append, ←HC.out.2.2.2.2];rfl
 · have:=H4.out.2.1
   rw[List.length_append, ←HC.out.2.2.2.2,List.map_append,List.map_cons,List.map_nil,HX.out];exact this
 have h5:=H2.out.2.2.2.2;have h6:=HC.out.2.2.2.1;rw[List.length_append, ←HC.out.2.2.2.2];simp only[List.length_cons,List.length_nil];omega
end
def NR (w:World) (ao:Option Addr) (l:List Value):Prop:=∀i x,l[i]?=some x→∃g off,ao=some ⟨g,off,none⟩∧w.cell? ⟨g,off+i,none⟩=some x
theorem NR.own {w:World} {base:Nat} {e:TypeId} {q:Value} {n:Nat} {l:List Value} (h:w.ownsRow base e 1 q n l):∃ao cap,q=.slice ao n cap∧NR w ao l∧l.length=n:=by
 have hl:l.length=n:=by have:=h.1;omega
 obtain⟨ao,cap,rfl⟩:=Aj h;refine⟨ao,cap,rfl,fun i x hx=>?_,hl⟩;have hi:=(List.getElem?_eq_some_iff.1 hx).1;obtain⟨g,cap',cur,he,hg,h1,h2,h3,h4⟩:=Cs h (by omega);cases he;have h4':cur.toList.take n=l:=by simpa using h4
 refine⟨g,0,rfl,?_⟩;rw[Nat.zero_add];refine AH hg ?_;rw[←Array.getElem?_toList];rw[←h4'] at hx;rw[List.getElem?_take_of_lt (by omega)] at hx;exact hx
end Go.Proofs.YtngbdbpofifimaaGreat.Store

/- Laws of the layers below. -/
import Derived.Test.YtooijgcildbnlaaGreatQg38
import Derived.Test.YtooijgcildbnlaaGreatQg34
set_option maxHeartbeats 3200000
set_option maxRecDepth 100000
set_option linter.unusedVariables false
namespace Go.Proofs.YtooijgcildbnlaaGreat.Store
open Go.RowKit Go.Sort Go.Proofs.YtooijgcildbnlaaGreat.ShaW Go.Proofs.YtooijgcildbnlaaGreat.Path Go.Proofs.YtooijgcildbnlaaGreat.CI
section
variable {w w' : World} {b : Nat} {F : Nat→Prop} {ρ : Rs} {σ : AD Nd}
theorem UP (G:Good σ) {n:Int} {s:Nd×Nat} (hs:σ.get? n=some s):∃(d:Nat) (t:Tr),Rep (sk σ) n d t∧d≤255∧(depth σ n=(d:Int)∨(depth σ n = -1∧d=0)):=by
 have hdi:=J5 G n;rw[Ay hs] at hdi;by_cases h2:s.1.kind=2
 · rw[if_pos h2] at hdi
   have hi:=G.fit.inner (BV hs) h2;have h0:0≤s.1.depth:=hi.d0;have h1:s.1.depth≤255:=hi.d1;obtain⟨d,hd⟩:∃d:Nat,s.1.depth=(d:Int):=⟨s.1.depth.toNat,by omega⟩
   obtain⟨t,ht⟩:=Rep.ex G.fit (256-d) d n (by omega) (.inr ⟨_,BV hs,fun _=>hd⟩);exact⟨d,t,ht,by omega,.inl (by rw[←hdi,hd])⟩
 rw[if_neg h2] at hdi;obtain⟨t,ht⟩:=Rep.ex G.fit 256 0 n rfl (.inr ⟨_,BV hs,fun e=>absurd e h2⟩);exact⟨0,t,ht,by omega,.inr ⟨hdi.symm,rfl⟩⟩
theorem FG.lp {L:Bi} {v:Value} {out:List Pr} (h:FG w w' F L v out) (hF:∀k,F k→k<w.heap.size):Lp w' v out:=by
 obtain⟨h1,_,h3,h4,h5⟩:=h;exact⟨h1.base (fun _ _=>Nat.zero_le _),h3,fun x hx=>⟨(h4 x hx).1,(h4 x hx).2.1,fun _ k hk=>Nat.lt_of_lt_of_le (hF k ((h4 x hx).2.2 k hk)) h5.size⟩⟩
theorem MY (h:RAt w b F ρ):Calls Tryz.prog 103 #[.pointer (some ⟨b,0,none⟩),.int .i64 0] w fun e w'=>e=.returned (.agg (AJ Tag.CY))∧Adds w w':=by
 obtain⟨Z,hZ⟩:∃Z,Z=AJ (List.replicate 32 0):=⟨_,rfl⟩
 have hzh:=De;rw[←hZ] at hzh;have hZs:Z.size=32:=by rw[hZ];rfl
 obtain⟨O,hO⟩:∃O,O=AJ Tag.CY:=⟨_,rfl⟩
 have hos:O.size=32:=by rw[hO,AY];exact Tag.Ab _ _
 have ho1:=Aq Tag.CY;have hcall:=Lm;rw[←hO] at ho1 hcall ⊢;have a0:Adds w (w.alloc (.cells Z 85)):=(Ch.refl _ _).alloc _;have HN:=Lib.hid (Cl (h.adds a0));have HC:=Lib.hid hcall;have HZ:=(hIq hzh hZs)
 have HO:=(hIq hO (aIq hos ho1))
 clear hzh hZs hZ hO hos ho1 hcall h a0;go_enter Tryz.func103,Tryz.ntmps103;go_wp2_with (first|fail|((with_reducible show zOq (.alloc 85));refine AH rfl 85 rfl (.agg Z) HZ.out.1 ?_;dsimp only[Value.cells];try simp only[World.size_alloc]));refine HN.out.mono ?_;rintro e w1 ⟨rfl,rfl⟩;go_wp2_with fail;refine(HC.out _).mono ?_;rintro e w4 ⟨rfl,hc4⟩;have hz4:=hc4.row (heap_alloc_new w (.cells Z 85)) id;have hw4:=((Ch.refl (fun _=>False) w).alloc (.cells Z 85)).trans hc4 (fun _=>fEq);have Z4:=Lib.hid hz4;have W4:=Lib.hid hw4;clear hc4 hz4 hw4
 go_wp2_with (first
  | fail
  | ((with_reducible show zOq (.store 85 _ _));refine AE rfl 85 _ _ rfl w.heap.size 0 O rfl rfl Z4.out (by rw[BW,HO.out.2.1]) (by rw[HO.out.2.1,HZ.out.2];omega) HO.out.2.2 O (by rw[AI _ _ (by rw[Array.length_toList,Array.length_toList,HO.out.2.1,HZ.out.2])]) ?_))
 exact AN (p:=4) rfl rfl (AF Z4.out _) Tryz.underlying85 rfl (by rw[BW,HO.out.2.1]) rfl ⟨rfl,W4.out.setRow (.inr (Nat.le_refl _)) _⟩
theorem MF (h:RAt w b F ρ) {n:Int} (h0:¬n=0) (hh:ρ.has n=false):Calls Tryz.prog 103 #[.pointer (some ⟨b,0,none⟩),.int .i64 n] w fun e w'=>e=.returned (.agg (AJ Nd.z32))∧Adds w w':=by
 obtain⟨Z,hZ⟩:∃Z,Z=AJ Nd.z32:=⟨_,rfl⟩
 have hzh:(Tryz.prog.info? 85).bind (·.zero)=some (.agg (AJ Nd.z32)):=De;have hzb:Tryz.prog.built 85 []=some (AJ Nd.z32):=by kernel_rfl
 rw[←hZ] at hzh hzb ⊢;have hZs:Z.size=32∧∀v∈Z.toList,v.oneCell'=true:=by rw[hZ];exact⟨rfl,Fs _⟩
 have a0:Adds w (w.alloc (.cells Z 85)):=(Ch.refl _ _).alloc _;have hhas:=EA (h.adds a0) n;rw[hh] at hhas;have HN:=Lib.hid hhas;have HZ:=(hIq hzh (aIq hZs (aIq hzb a0)))
 clear hzh hZs hZ hzb h hhas hh a0;go_enter Tryz.func103,Tryz.ntmps103;go_wp2_with (first|fail|((with_reducible show zOq (.alloc 85));refine AH rfl 85 rfl (.agg Z) HZ.out.1 ?_;dsimp only[Value.cells];try simp only[World.size_alloc]));refine HN.out.mono ?_;rintro e w1 ⟨rfl,rfl⟩;have hk1:=heap_alloc_new w (.cells Z 85);have H1:=Lib.hid hk1;have hlt:=Ad hk1;clear hk1
 go_wp2_with (first
  | fail
  | ((with_reducible show zOq (.build 85 #[]));refine BP rfl 85 rfl Z HZ.out.2.2.1 ?_)
  | ((with_reducible show zOq (.store 85 _ _));refine AE rfl 85 _ _ rfl w.heap.size 0 Z rfl rfl H1.out (by rw[BW,HZ.out.2.1.1]) (by omega) HZ.out.2.1.2 Z (by rw[AI _ _ rfl]) ?_))
 exact AN (p:=4) rfl rfl (AF H1.out _) Tryz.underlying85 rfl (by rw[BW,HZ.out.2.1.1]) rfl ⟨rfl,HZ.out.2.2.2.setRow (.inr (Nat.le_refl _)) _⟩
theorem Mg (h:RAt w b F ρ) {n:Int} (h0:¬n=0) (hh:ρ.has n=true) {D:Int} (hd:ρ.depth n=D) (d:Nat) (hD:(if 0 > D then 0 else D)=(d:Int)) {O:Array Value} (hO:O.size=32∧∀v∈O.toList,v.oneCell'=true)
 {t:Bi} (hE:∀w1,RAt w1 b F ρ→Calls Tryz.prog 78 #[.pointer (some ⟨b,0,none⟩),.int .i64 n] w1 fun e w'=>∃v out,e=.returned v∧FG w1 w' F t v out)
 (hA:∀w1 v out,Adds w w1→Lp w1 v out→out.map Pr.ent=t→Calls Tryz.prog 138 #[v,.int .i64 (d:Int)] w1 fun e w'=>e=.returned (.agg O)∧Adds w1 w') :
 Calls Tryz.prog 103 #[.pointer (some ⟨b,0,none⟩),.int .i64 n] w fun e w'=>e=.returned (.agg O)∧Adds w w':=by
 obtain⟨Z,hZ⟩:∃Z,Z=AJ (List.replicate 32 0):=⟨_,rfl⟩
 have hzh:=De;rw[←hZ] at hzh;have hZs:Z.size=32:=by rw[hZ];rfl
 have a0:Adds w (w.alloc (.cells Z 85)):=(Ch.refl _ _).alloc _;have hhas:=EA (h.adds a0) n;rw[hh] at hhas;have hdep:=fun w1 (a:Adds w w1)=>JI (h.adds a) n
 rw[hd] at hdep;have HN:=Lib.hid hhas;have HD:=(hIq hdep hD)
 have HZ:=(hIq hzh (aIq hZs a0))
 have HO:=Lib.hid hO;have HE:=Lib.hid (hE _ (h.adds a0));have hlt0:∀k,F k→k<(w.alloc (.cells Z 85)).heap.size:=fun k hk=>Nat.lt_of_lt_of_le (h.lt k hk) a0.size
 have HA:=(hIq hA hlt0)
 have hmax:∀(ts:Array TypeId) (ty:TypeId) (w1:World),(Builtin.max_ ts ty #[.int .i64 D,.int .i64 0]).run Tryz.prog w1=.ok (.int .i64 (d:Int)) w1:=fun ts ty w1=>by
  rw[run_max_int2,hD]
 clear hzh hZs hZ h hhas hdep hh hd hD a0 hE hA hO hlt0;go_enter Tryz.func103,Tryz.ntmps103;go_wp2_with (first|fail|((with_reducible show zOq (.alloc 85));refine AH rfl 85 rfl (.agg Z) HZ.out.1 ?_;dsimp only[Value.cells];try simp only[World.size_alloc]));refine HN.out.mono ?_;rintro e w1 ⟨rfl,rfl⟩;go_wp2_with fail;refine HE.out.mono ?_;rintro e w1 ⟨v,out,rfl,hEn⟩;have hlp:=hEn.lp HA.out.2;have hen:=hEn.2.1;have ha1:=hEn.2.2.2.2;obtain⟨q,qc,rfl⟩:=hlp.row.form;obtain⟨m,hm⟩:∃m,m=out.length:=⟨_,rfl⟩
 rw[←hm] at hlp ⊢;have H1:=(hIq hlp (aIq hen (aIq (HZ.out.2.2.trans ha1 (fun _=>fEq)) (ha1.row (heap_alloc_new w (.cells Z 85)) id))))
 clear hlp hen ha1 hm hEn;go_wp2_with fail;refine(HD.out.1 _ H1.out.2.2.1).mono ?_;rintro e w2 ⟨rfl,a2⟩;have A2:=Lib.hid a2;clear a2;go_wp2_with fail;refine(HA.out.1 _ _ out (H1.out.2.2.1.trans A2.out (fun _=>fEq)) (H1.out.1.adds A2.out) H1.out.2.1).mono ?_;rintro e w4 ⟨rfl,hc4⟩;have Z4:=Lib.hid (hc4.row (A2.out.row H1.out.2.2.2 id) id);have W4:=Lib.hid ((H1.out.2.2.1.trans A2.out (fun _=>fEq)).trans hc4 (fun _=>fEq));clear hc4
 go_wp2_with (first
  | fail
  | ((with_reducible show zOq (.store 85 _ _));refine AE rfl 85 _ _ rfl w.heap.size 0 O rfl rfl Z4.out (by rw[BW,HO.out.1]) (by rw[HO.out.1,HZ.out.2.1];omega) HO.out.2 O (by rw[AI _ _ (by rw[Array.length_toList,Array.length_toList,HO.out.1,HZ.out.2.1])]) ?_))
 exact AN (p:=4) rfl rfl (AF Z4.out _) Tryz.underlying85 rfl (by rw[BW,HO.out.1]) rfl ⟨rfl,W4.out.setRow (.inr (Nat.le_refl _)) _⟩
theorem Fy (h:RAt w b F ρ) (L:Lk σ ρ) (G:Good σ) (n:Int):Calls Tryz.prog 103 #[.pointer (some ⟨b,0,none⟩),.int .i64 n] w fun e w'=>e=.returned (.agg (AJ (Al σ n)))∧Adds w w':=by
 by_cases h0:n=0
 · subst h0
   have e:Al σ 0=Tag.CY:=by unfold Al;rw[if_pos rfl]
   rw[e];exact MY h
 cases hs:σ.get? n with
 | none =>
  have e:Al σ n=Nd.z32:=by unfold Al;rw[if_neg h0,B9 hs];rfl
  rw[e];exact MF h h0 (by rw[L.has G];exact DK hs)
 | some s =>
  obtain⟨d,t,hr,hd,hdd⟩:=UP G hs;have hdig:Al σ n=(tree (256-d) t.Ai).dig:=by rw[Da,hr.dig G.fit, ←Rep.canon G.fit hr (256-d) (by omega)]
  obtain⟨_,_,k,hok⟩:=Rep.Xs G.fit hr;have hle:t.Ai.length≤65536:=Nat.le_trans (Gu G hr) (Nat.le_trans G.sound.wf.len G.sound.wf.room.2);have hvs:=(hr.Ai G.fit).1;have hdp:ρ.depth n=depth σ n:=by rw[←J5 G n, ←L.depth G n];rfl
  rw[hdig];refine Mg h h0 (by rw[L.has G];exact Bq hs) hdp d ?_ ⟨by rw[AY];exact CN _,Aq _⟩ (fun w1 h1=>DZ L G hr h1) (fun w1 v out a hl he=>?_)
  · rcases hdd with e|⟨e,e0⟩
    · rw[e,if_neg (by omega)]
    rw[e,e0];rfl
  rw[←he] at hok hle hvs ⊢;refine Qt (256-d) d (by omega) hl (by simpa using hle) (fun x hx=>?_) hok;have:=(hvs x.ent (List.mem_map.2 ⟨x,hx,rfl⟩)).2;exact Nat.le_trans this (by omega)
end
end Go.Proofs.YtooijgcildbnlaaGreat.Store
namespace Go.Proofs.YtooijgcildbnlaaGreat.Store
open Go.RowKit Go.Sort Go.Proofs.YtooijgcildbnlaaGreat.ShaW Go.Proofs.YtooijgcildbnlaaGreat.Path
theorem Iv {P:Program} {w:World} {e:TypeId} {N C:Array Value} {off n:Nat} (ha:(isAgg e).run P w=.ok true w) (hs:(Go.sizeOf e).run P w=.ok n w) (hv:N.extract off (off+n)=C):(Go.part e N off).run P w=.ok (.agg C) w:=by
 unfold Go.part;simp only[Sem.run_bind,Result.andThen_ok,ha];simp[hv,hs,go_sem]
theorem Tm {P:Program} {w:World} {e:TypeId} {N:Array Value} {off:Nat} {v:Value} (ha:(isAgg e).run P w=.ok false w) (hv:N[off]?=some v):(Go.part e N off).run P w=.ok v w:=by
 unfold Go.part;simp only[Sem.run_bind,Result.andThen_ok,ha,hv];simp[go_sem]
theorem Hc {P:Program} {w:World} {d:Nat} {xs ys:Array Value}:∀(fs:List Field),(∀f∈fs,∃a b,(Go.part f.type xs f.offset).run P w=.ok a w∧(Go.part f.type ys f.offset).run P w=.ok b w∧(Op.equalIn d f.type a b).run P w=.ok true w)→(Op.eqFields d xs ys fs).run P w=.ok true w
 | [],_=>by simp[Op.eqFields]
 | f::fs,h=>by
  obtain⟨a,b,h1,h2,h3⟩:=h f (List.mem_cons_self ..);have ih:=Hc (P:=P) (w:=w) (d:=d) (xs:=xs) (ys:=ys) fs (fun g hg=>h g (List.mem_cons_of_mem _ hg));unfold Op.eqFields;split
  · simp only[Sem.run_bind,h1,Result.andThen_ok,h2,h3]
    simpa using ih
  exact ih
theorem MS:(Tryz.prog.fieldsOf 115).toList.map (fun f=>(f.type,f.offset)) = [(113,0),(24,1),(85,33),(85,65),(85,97)]:=by kernel_rfl
theorem UL {X:Array Value} {k:Int} {a b c d:List UInt8} (h0:X[0]?=some (.int .u8 k)) (h1:X.extract 1 33=AJ a) (h2:X.extract 33 65=AJ b) (h3:X.extract 65 97=AJ c) (h4:X.extract 97 129=AJ d) (ha:a.length=32) (hb:b.length=32) (hc:c.length=32) (hd:d.length=32) (w:World) :
 (Go.binOp BinOp.eql 115 (.agg X) (.agg X)).run Tryz.prog w=.ok (.bool true) w:=by
 obtain⟨i,hi⟩:∃i,Tryz.prog.info? 5=some i:=Option.isSome_iff_exists.1 (by kernel_rfl)
 have hP:∀(l:List UInt8),l.length=32→(Op.equalIn 9999 24 (.agg (AJ l)) (.agg (AJ l))).run Tryz.prog w=.ok true w:=fun l hl=>by
  have:=DS w 24 5 32 .u8 i Tryz.underlying24 hi (by kernel_rfl) (by kernel_rfl) Tryz.underlying5 9997 l l hl hl;simpa using this
 have hH:∀(l:List UInt8),l.length=32→(Op.equalIn 9999 85 (.agg (AJ l)) (.agg (AJ l))).run Tryz.prog w=.ok true w:=fun l hl=>by
  have:=DS w 85 5 32 .u8 i Tryz.underlying85 hi (by kernel_rfl) (by kernel_rfl) Tryz.underlying5 9997 l l hl hl;simpa using this
 have sP:(Go.sizeOf 24).run Tryz.prog w=.ok 32 w:=by
  obtain⟨j,hj,hs⟩:=Option.map_eq_some_iff.1 Au;have:=run_sizeOf (P:=Tryz.prog) w hj;rw[show Tryz.prog.cellsOf 24=32 by kernel_rfl] at this;exact this
 have sH:(Go.sizeOf 85).run Tryz.prog w=.ok 32 w:=by
  obtain⟨j,hj,hs⟩:=Option.map_eq_some_iff.1 BW;have:=run_sizeOf (P:=Tryz.prog) w hj;rw[show Tryz.prog.cellsOf 85=32 by kernel_rfl] at this;exact this
 rw[run_eql_struct,run_equalIn_struct w 9999 _ X X (by have h:=Tryz.underlying115;simp only[Program.fieldsOf,h]) (by kernel_rfl)];rw[Hc (P:=Tryz.prog) (w:=w) (d:=9999) (xs:=X) (ys:=X) _ (fun f hf=>?_)]
 · rfl
 have hm:(f.type,f.offset)∈(Tryz.prog.fieldsOf 115).toList.map (fun f=>(f.type,f.offset)):=List.mem_map.2 ⟨f,hf,rfl⟩;rw[MS] at hm;generalize f.type=ft,f.offset=fo at hm ⊢;simp only[List.mem_cons,Prod.mk.injEq,List.not_mem_nil,or_false] at hm;rcases hm with⟨rfl,rfl⟩|⟨rfl,rfl⟩|⟨rfl,rfl⟩|⟨rfl,rfl⟩|⟨rfl,rfl⟩
 · have hp:=Tm (P:=Tryz.prog) (w:=w) (e:=113) (N:=X) (off:=0) (by kernel_rfl) h0
   exact⟨_,_,hp,hp,by rw[run_equalIn_int w 9998 113 .u8 .u8 k k Tryz.underlying113];simp⟩
 · have hp:=Iv (P:=Tryz.prog) (w:=w) (e:=24) (N:=X) (off:=1) (by kernel_rfl) sP h1
   exact⟨_,_,hp,hp,hP a ha⟩
 · have hp:=Iv (P:=Tryz.prog) (w:=w) (e:=85) (N:=X) (off:=33) (by kernel_rfl) sH h2
   exact⟨_,_,hp,hp,hH b hb⟩
 · have hp:=Iv (P:=Tryz.prog) (w:=w) (e:=85) (N:=X) (off:=65) (by kernel_rfl) sH h3
   exact⟨_,_,hp,hp,hH c hc⟩
 have hp:=Iv (P:=Tryz.prog) (w:=w) (e:=85) (N:=X) (off:=97) (by kernel_rfl) sH h4;exact⟨_,_,hp,hp,hH d hd⟩
def Tf (k:Nat) (a b c d:List UInt8):List Value:=.int .u8 (k:Nat)::(a.map bv++(b.map bv++(c.map bv++d.map bv)))
def Dr (k:Nat) (a b c d:List UInt8):Array Value:=(Tf k a b c d).toArray
theorem Vg:CV=Dr 0 Nd.z32 Nd.z32 Nd.z32 Nd.z32:=by kernel_rfl
theorem Fw {k:Nat} {a b c d:List UInt8} (ha:a.length=32) (hb:b.length=32) (hc:c.length=32) (hd:d.length=32):(Dr k a b c d).size=129:=by simp[Dr,Tf,ha,hb,hc,hd]
theorem Gt (k:Nat) (a b c d:List UInt8):∀v∈(Dr k a b c d).toList,v.oneCell'=true:=fun v hv=>by
 simp only[Dr,Tf,List.mem_cons,List.mem_append,List.mem_map] at hv;rcases hv with rfl|⟨_,_,rfl⟩|⟨_,_,rfl⟩|⟨_,_,rfl⟩|⟨_,_,rfl⟩<;>rfl
theorem JA {k:Nat} {a b c d:List UInt8} (ha:a.length=32) (hb:b.length=32) (hc:c.length=32) (hd:d.length=32) (w:World) :
 (Go.binOp BinOp.eql 115 (.agg (Dr k a b c d)) (.agg (Dr k a b c d))).run Tryz.prog w=.ok (.bool true) w:=by
 have ex:∀(p q s:List Value) (n m:Nat),p.length=n→q.length=m-n→((p++(q++s)).toArray.extract n m)=q.toArray:=fun p q s n m hp hq=>by
  apply Array.ext';rw[Array.toList_extract,List.extract_eq_take_drop]
  show((p++(q++s)).drop n).take (m-n)=q
  rw[←hp,List.drop_left,hp, ←hq,List.take_left]
 refine UL (k:=(k:Int)) (a:=a) (b:=b) (c:=c) (d:=d) rfl ?_ ?_ ?_ ?_ ha hb hc hd w
 · exact ex [.int .u8 (k:Nat)] (a.map bv) _ 1 33 rfl (by simp[ha])
 · have:=ex (.int .u8 (k:Nat)::a.map bv) (b.map bv) (c.map bv++d.map bv) 33 65 (by simp[ha]) (by simp[hb])
   exact this
 · have:=ex (.int .u8 (k:Nat)::(a.map bv++b.map bv)) (c.map bv) (d.map bv) 65 97 (by simp[ha,hb]) (by simp[hc])
   rw[List.cons_append,List.append_assoc] at this;exact this
 have:=ex (.int .u8 (k:Nat)::(a.map bv++(b.map bv++c.map bv))) (d.map bv) [] 97 129 (by simp[ha,hb,hc]) (by simp[hd]);rw[List.cons_append,List.append_assoc,List.append_assoc,List.append_nil] at this;exact this
end Go.Proofs.YtooijgcildbnlaaGreat.Store
namespace Go.Proofs.YtooijgcildbnlaaGreat.Store
open Go.RowKit Go.Sort Go.Proofs.YtooijgcildbnlaaGreat.ShaW Go.Proofs.YtooijgcildbnlaaGreat.Path Go.Proofs.YtooijgcildbnlaaGreat.CI
theorem Cd {P:Program} {w:World} {ops:Array Oper} {rest:List Oper} {o:Oper} {a:Act} {Q:Exit→Act→World→Prop} (hgd:o.guard=none) (t i j k:Nat) (x y z:Operand) (ho:o.op=.build t #[(i,x),(j,y),(k,z)])
 (vx vy vz:Value) (hx:a.eval x=vx) (hy:a.eval y=vy) (hz:a.eval z=vz) (cells:Array Value) (hf:P.built t [(i,vx),(j,vy),(k,vz)]=some cells) (h:wpList P ops Q rest (a.put o.dst (.agg cells)) w):wpList P ops Q (o::rest) a w :=
 wpList_build_is hgd t #[(i,x),(j,y),(k,z)] ho cells (by simpa[hx,hy,hz] using hf) h
theorem Je:∃i fs,Tryz.prog.info? 115=some i∧i.zero=some (.agg CV)∧Tryz.prog.underlying 115=some (.struct fs) ∧
 fs.toList.mapM (fun f=>(Tryz.prog.info? f.type).map fun i=>(f.offset,i.size))=some [(0,1),(1,32),(33,32),(65,32),(97,32)]:=by
 obtain⟨i,hi⟩:∃i,Tryz.prog.info? 115=some i:=Option.isSome_iff_exists.1 (by kernel_rfl);have hz:=Cy.1;rw[hi] at hz;exact⟨i,_,hi,hz,Tryz.underlying115,by kernel_rfl⟩
theorem Bj {p q s v:List Value} {n:Nat} (hp:p.length=n) (hq:q.length=v.length):splice (p++(q++s)) n v=p++(v++s):=by
 unfold splice;rw[←hp,List.take_left, ←hq,List.drop_append,Nat.add_sub_cancel_left,List.drop_of_length_le (by omega),List.nil_append,List.drop_left,List.append_assoc]
def zb:List Value:=Nd.z32.map bv
theorem Cp:zb.length=32:=rfl
theorem Qu:splice CV.toList 0 [Value.int .u8 1] = [Value.int .u8 1]++(zb++(zb++(zb++zb)))∧splice CV.toList 0 [Value.int .u8 2] = [Value.int .u8 2]++(zb++(zb++(zb++zb))):=⟨by kernel_rfl,by kernel_rfl⟩
theorem GQ (K V:List UInt8) (hK:K.length=32) (hV:V.length=32) :
 Tryz.prog.built 115 [(0,.int .u8 1),(1,.agg (AJ K)),(2,.agg (AJ V))]=some (Dr 1 K V Nd.z32 Nd.z32):=by
 obtain⟨i,fs,h1,h2,h3,h4⟩:=Je;have hzs:CV.size=129:=rfl;unfold Program.built;rw[h1,h3];simp only[h2,h4]
 show Instr.fill _ CV _=_
 rw[Ax (off:=0) (size:=1) rfl rfl (by rw[hzs];omega)];have e1:(Value.int IntKind.u8 1).cells.toList = [Value.int .u8 1]:=rfl;rw[e1,Qu.1];rw[Ax (off:=1) (size:=32) rfl (by simp[Value.cells,AY,hK]) (by simp[Cp])];have e2:(Value.agg (AJ K)).cells.toList=K.map bv:=by simp[Value.cells,AJ]
 rw[e2]
 show Instr.fill _ (splice ([Value.int .u8 1]++(zb++(zb++(zb++zb)))) 1 (K.map bv)).toArray _=_
 rw[Bj (p := [Value.int .u8 1]) (n:=1) rfl (by rw[Cp,List.length_map,hK])];rw[Ax (off:=33) (size:=32) rfl (by simp[Value.cells,AY,hV]) (by simp[Cp,hK])];have e3:(Value.agg (AJ V)).cells.toList=V.map bv:=by simp[Value.cells,AJ]
 rw[e3]
 show some (splice ([Value.int .u8 1]++(K.map bv++(zb++(zb++zb)))) 33 (V.map bv)).toArray=_
 rw[←List.append_assoc,Bj (by simp[hK]) (by rw[Cp,List.length_map,hV]),List.append_assoc];rfl
theorem Fk (L R:List UInt8) (hL:L.length=32) (hR:R.length=32) :
 Tryz.prog.built 115 [(0,.int .u8 2),(3,.agg (AJ L)),(4,.agg (AJ R))]=some (Dr 2 Nd.z32 Nd.z32 L R):=by
 obtain⟨i,fs,h1,h2,h3,h4⟩:=Je;have hzs:CV.size=129:=rfl;unfold Program.built;rw[h1,h3];simp only[h2,h4]
 show Instr.fill _ CV _=_
 rw[Ax (off:=0) (size:=1) rfl rfl (by rw[hzs];omega)];have e1:(Value.int IntKind.u8 2).cells.toList = [Value.int .u8 2]:=rfl;rw[e1,Qu.2];rw[Ax (off:=65) (size:=32) rfl (by simp[Value.cells,AY,hL]) (by simp[Cp])];have e2:(Value.agg (AJ L)).cells.toList=L.map bv:=by simp[Value.cells,AJ]
 rw[e2]
 show Instr.fill _ (splice ([Value.int .u8 2]++(zb++(zb++(zb++zb)))) 65 (L.map bv)).toArray _=_
 rw[show [Value.int .u8 2]++(zb++(zb++(zb++zb)))=([Value.int .u8 2]++(zb++zb))++(zb++zb) by simp only[List.append_assoc],Bj (by simp[Cp]) (by rw[Cp,List.length_map,hL])];rw[Ax (off:=97) (size:=32) rfl (by simp[Value.cells,AY,hR]) (by simp[Cp,hL])];have e3:(Value.agg (AJ R)).cells.toList=R.map bv:=by simp[Value.cells,AJ]
 rw[e3]
 show some (splice (([Value.int .u8 2]++(zb++zb))++(L.map bv++zb)) 97 (R.map bv)).toArray=_
 rw[show([Value.int .u8 2]++(zb++zb))++(L.map bv++zb)=([Value.int .u8 2]++(zb++(zb++L.map bv)))++(zb ++ []) by simp only[List.append_assoc,List.append_nil],Bj (by simp[Cp,hL]) (by rw[Cp,List.length_map,hR])];simp only[List.append_assoc,List.append_nil];rfl
section
variable {w w' : World} {b : Nat} {F : Nat→Prop} {ρ : Rs} {σ : AD Nd}
theorem QK (h:RAt w b F ρ) {n:Int} (hz0:ρ.sp n=Sp.zero):Calls Tryz.prog 247 #[.pointer (some ⟨b,0,none⟩),.int .i64 n] w fun e w'=>e=.returned (.agg CV)∧Adds w w':=by
 have hg:=fun w1 (a:Adds w w1)=>CX (h.adds a) n
 rw[hz0] at hg;obtain⟨Z,hZ⟩:∃Z,Z=Sp.zero.cells:=⟨_,rfl⟩
 have hzs:=Ey;rw[←hZ] at hg hzs;have k0:Z[0]?=some (.int .u8 0):=by rw[hZ];rfl
 obtain⟨Y,hY⟩:∃Y,Y=CV:=⟨_,rfl⟩
 have hyf:=Cy;have hy1:=LW;have hYs:CV.size=129:=rfl;rw[←hY] at hyf hy1 hYs ⊢;have HZ:=(hIq hzs (by rw[hZ];exact⟨Sp.AT Sp.BA,Sp.cells_one Sp.BA⟩:Z.size=39∧∀v∈Z.toList,v.oneCell'=true))
 have HY:=(hIq hyf (aIq hYs hy1))
 have HG:=Lib.hid hg;have K0:=Lib.hid k0;clear hg hz0 hZ hzs h k0 hyf hy1 hYs hY;go_enter Tryz.func247,Tryz.ntmps247;go_wp2_with (first|fail|((with_reducible show zOq (.alloc 115));refine AH rfl 115 rfl (.agg Y) HY.out.1.1 ?_;dsimp only[Value.cells];try simp only[World.size_alloc]));refine(HG.out _ ((Ch.refl _ _).alloc _)).mono ?_;rintro e w1 ⟨rfl,hc1⟩;have hyr:=hc1.row (heap_alloc_new w (.cells Y 115)) id;have c0:=AG (AF (heap_alloc_new w1 (.cells Z 254)) Z) K0.out;have C1:=Lib.hid (((Ch.refl (fun _=>False) w).alloc (.cells Y 115)).trans hc1 (fun _=>fEq));have hlt:=Ad hyr;have HY1:=Lib.hid hyr;clear hc1 hyr
 go_wp2_with (first
  | fail
  | ((with_reducible show zOq (.alloc 254));refine AH rfl 254 rfl (.agg Z) HZ.out.1 ?_;dsimp only[Value.cells];try simp only[World.size_alloc])
  | ((with_reducible show zOq (.store 254 _ _));refine AE rfl 254 _ _ rfl w1.heap.size 0 Z rfl rfl (heap_alloc_new _ _) (by rw[CJ,HZ.out.2.1]) (by omega) HZ.out.2.2 Z (by rw[AI _ _ rfl]) ?_)
  | ((with_reducible show zOq (.build 115 _));refine BP rfl 115 rfl Y HY.out.1.2.2 ?_)
  | ((with_reducible show zOq (.store 115 _ _));refine AE rfl 115 _ _ rfl w.heap.size 0 Y rfl rfl (row_setRow (AM HY1.out _) (by omega) _) (by rw[HY.out.1.2.1,HY.out.2.1]) (by omega) HY.out.2.2 Y (by rw[AI _ _ rfl]) ?_))
 have hws:=C1.out.size;exact AN (p:=4) rfl rfl (AF (row_setRow (AM HY1.out _) (by omega) _) _) Tryz.underlying115 rfl (by rw[HY.out.1.2.1,HY.out.2.1]) rfl ⟨rfl,((C1.out.alloc _).setRow (.inr hws) _).setRow (.inr (Nat.le_refl _)) _⟩
theorem PW (h:RAt w b F ρ) (L:Lk σ ρ) (G:Good σ) {n:Int} {s:Nd×Nat} (hs:σ.get? n=some s) (hk:s.1.kind=1) :
 Calls Tryz.prog 247 #[.pointer (some ⟨b,0,none⟩),.int .i64 n] w fun e w'=>e=.returned (.agg (Dr 1 s.1.key s.1.hash Nd.z32 Nd.z32))∧Adds w w':=by
 obtain⟨m,x,hnm,hlt,hsm,hx,h0,hsp,hkx,hk0,hle,hri,hv,hkey,hd,ho,hos⟩:=L.some G hs;have hok:=(h.1.nums x (List.mem_of_getElem? hx)).1
 have hel:Bytes w x.addr x.value∧∀k,x.addr.ownBlock=some k→F k:=by
  obtain⟨_,_,_,_,_,_,h4,_⟩:=h;exact⟨(h4 x (List.mem_of_getElem? hx)).1,fun k hk=>((h4 x (List.mem_of_getElem? hx)).2 k hk).1⟩
 have hF:=h.lt;have hlf:=(G.fit.leaf (BV hs) (by show ¬s.1.kind=2;omega)).2;have hvl:s.1.value.length≤1024:=hlf.value;have hhash:s.1.hash=Tag.BC s.1.value:=hlf.hash;have hkl:s.1.key.length=32:=hlf.key;have hg:=fun w1 (a:Adds w w1)=>CX (h.adds a) n
 rw[hsp] at hg;have hvx:x.value=s.1.value:=hv;have hkeyx:x.key=s.1.key:=hkey hk;obtain⟨N,hN⟩:∃N,N=x.cells:=⟨_,rfl⟩
 have hNs:N.size=39∧∀v∈N.toList,v.oneCell'=true:=by rw[hN];exact⟨Sp.AT hok,Sp.cells_one hok⟩
 have k0:N[0]?=some (.int .u8 1):=by rw[hN,Sp.Av,hkx,hk];rfl
 have k34:=Sp.Jp hok;have kk:=Sp.Bh hok;rw[←hN] at hg k34 kk;obtain⟨hby,hbk⟩:=hel;obtain⟨ao,vc,hvf,_,_⟩:=hby.form;obtain⟨vn,hvn⟩:∃vn,vn=x.value.length:=⟨_,rfl⟩
 rw[←hvn] at hvf;rw[hvf] at k34 hby hbk;obtain⟨Z,hZ⟩:∃Z,Z=Sp.zero.cells:=⟨_,rfl⟩
 have hzs:=Ey;rw[←hZ] at hzs;obtain⟨Y,hY⟩:∃Y,Y=CV:=⟨_,rfl⟩
 have hyf:=Cy;have hYs:CV.size=129:=rfl;rw[←hY] at hyf hYs;obtain⟨O,hO⟩:∃O,O=Dr 1 s.1.key s.1.hash Nd.z32 Nd.z32:=⟨_,rfl⟩
 have hhl:s.1.hash.length=32:=by rw[hhash];exact Tag.Ab _ _
 have hOs:O.size=129∧∀v∈O.toList,v.oneCell'=true:=by rw[hO];exact⟨Fw hkl hhl rfl rfl,Gt _ _ _ _ _⟩
 have hbt:=GQ s.1.key s.1.hash hkl hhl;obtain⟨K,hK⟩:∃K,K=AJ s.1.key:=⟨_,rfl⟩
 obtain⟨D,hD⟩:∃D,D=AJ s.1.hash:=⟨_,rfl⟩
 rw[hkeyx, ←hK] at kk;rw[←hO, ←hK, ←hD] at hbt
 have hval:∀w1,Adds w w1→Calls Tryz.prog 211 #[.slice ao vn vc] w1 fun e w'=>e=.returned (.agg D)∧Adds w1 w':=fun w1 a=>by
  rw[hD,hhash, ←hvx];exact KU (hby.Am a (fun _ _ h=>h)) (fun h0 k hk=>Nat.lt_of_lt_of_le (hF k (hbk k hk)) a.size) (by rw[hvx];omega)
 rw[←hO];have HG:=Lib.hid hg;have HN:=(hIq hNs (aIq k0 (aIq k34 kk)))
 have HZ:=(hIq hzs (by rw[hZ];exact Sp.AT Sp.BA:Z.size=39))
 have HY:=(hIq hyf hYs)
 have HO:=(hIq hOs hbt)
 have HV:=Lib.hid hval;clear hg hNs k0 k34 kk hzs hZ hyf hYs hY hOs hbt hval hO hK hD hN hby hbk hvf hvn hhl hkl hhash hvl hlf hF hok hx hsm hlt h0 hsp hkx hk0 hle hri hv hkey hd ho hos hvx hkeyx h hs hk hnm;go_enter Tryz.func247,Tryz.ntmps247;go_wp2_with (first|fail|((with_reducible show zOq (.alloc 115));refine AH rfl 115 rfl (.agg Y) HY.out.1.1 ?_;dsimp only[Value.cells];try simp only[World.size_alloc]));refine(HG.out _ ((Ch.refl _ _).alloc _)).mono ?_;rintro e w1 ⟨rfl,hc1⟩;have hyr:=hc1.row (heap_alloc_new w (.cells Y 115)) id;have c0:=AG (AF (heap_alloc_new w1 (.cells Z 254)) N) HN.out.2.1;have C1:=Lib.hid (((Ch.refl (fun _=>False) w).alloc (.cells Y 115)).trans hc1 (fun _=>fEq));have hlt:=Ad hyr;have HY1:=Lib.hid hyr;clear hc1 hyr
 go_upto_region 3 with(first
  | fail
  | ((with_reducible show zOq (.alloc 254));refine AH rfl 254 rfl (.agg Z) HZ.out.1 ?_;dsimp only[Value.cells];try simp only[World.size_alloc])
  | ((with_reducible show zOq (.store 254 _ _));refine AE rfl 254 _ _ rfl w1.heap.size 0 N rfl rfl (heap_alloc_new _ _) (by rw[CJ,HN.out.1.1]) (by rw[HN.out.1.1,HZ.out.2];omega) HN.out.1.2 N (by rw[AI _ _ (by rw[Array.length_toList,Array.length_toList,HN.out.1.1,HZ.out.2])]) ?_))
 have r1:((w1.alloc (.cells Z 254)).setRow w1.heap.size N).heap[w1.heap.size]?=some (.cells N 254 (0,0)):=AF (heap_alloc_new _ _) _;have r2:((w1.alloc (.cells Z 254)).setRow w1.heap.size N).heap[w.heap.size]?=some (.cells Y 115 (0,0)):=row_setRow (AM HY1.out _) (by omega) _;have a2:Adds w ((w1.alloc (.cells Z 254)).setRow w1.heap.size N):=(C1.out.alloc _).setRow (.inr C1.out.size) _;obtain⟨w2,hw2⟩:∃w2,w2=(w1.alloc (.cells Z 254)).setRow w1.heap.size N:=⟨_,rfl⟩
 obtain⟨B,hB⟩:∃B,B=w1.heap.size:=⟨_,rfl⟩
 rw[←hw2] at r1 r2 a2 ⊢;rw[←hB] at r1 ⊢;have HW:=(hIq r1 (aIq r2 a2))
 clear r1 r2 a2 hw2 c0 hlt hB;refine AS (fun wz=>wz.heap[B]?=some (.cells N 254 (0,0))∧wz.heap[w.heap.size]?=some (.cells Y 115 (0,0))∧Adds w wz) 7 [(0,false),(1,false),(2,false),(3,false),(4,false),(5,false),(6,true)] (by kernel_rfl) (by kernel_rfl) ?_ ?_
 · exact⟨AQ HW.out.1,AQ HW.out.2.1,HW.out.2.2.drew⟩
 iterate 2
  refine plan_look rfl rfl (fun w0 hS=>(by clear hS;go_simp;try rfl)) ?_;simp only[Act.put,nAq,nBq,nCq]
 refine CQ (cur:=N) (t:=254) (fr:=(0,0)) rfl rfl 24 _ rfl B 2 32 rfl (fun w0 hS=>hS.1) Tryz.underlying24 rfl Au (by rw[HN.out.1.1];omega) K HN.out.2.2.2 ?_;simp only[Act.put,nAq,nBq,nCq]
 iterate 2
  refine plan_look rfl rfl (fun w0 hS=>(by clear hS;go_simp;try rfl)) ?_;simp only[Act.put,nAq,nBq,nCq]
 refine plan_look (v:=.slice ao vn vc) rfl rfl (fun w0 hS=>(by have c:=AG hS.1 HN.out.2.2.1;clear hS;go_simp;try rfl)) ?_;simp only[Act.put,nAq,nBq,nCq];refine Ah rfl ?_;go_wp2_with fail;refine(HV.out _ HW.out.2.2.drew).mono ?_;rintro e wa ⟨rfl,aa⟩;have AA:=(hIq (aa.row (AQ HW.out.1) id) (aIq (aa.row (AQ HW.out.2.1) id) (HW.out.2.2.drew.trans aa (fun _=>fEq))))
 clear aa;dsimp only;go_step;refine wpList_nil ?_;change _∧_;refine⟨AA.out,?_⟩;refine Ae ?_;simp only[List.drop_succ_cons,List.drop_zero];have hlt:=Ad AA.out.2.1
 go_wp2_with (first
  | fail
  | ((with_reducible show zOq (.build 115 _));refine Cd rfl 115 0 1 2 _ _ _ rfl (.int .u8 1) (.agg K) (.agg D) rfl rfl rfl O HO.out.2 ?_)
  | ((with_reducible show zOq (.store 115 _ _));refine AE rfl 115 _ _ rfl w.heap.size 0 O rfl rfl AA.out.2.1 (by rw[HY.out.1.2.1,HO.out.1.1]) (by rw[HO.out.1.1,HY.out.2];omega) HO.out.1.2 O (by rw[AI _ _ (by rw[Array.length_toList,Array.length_toList,HO.out.1.1,HY.out.2])]) ?_))
 refine NoPanic.normal ?_;go_wp2;exact AN (p:=4) rfl rfl (AF AA.out.2.1 _) Tryz.underlying115 rfl (by rw[HY.out.1.2.1,HO.out.1.1]) rfl ⟨rfl,AA.out.2.2.setRow (.inr (Nat.le_refl _)) _⟩
theorem Ni (h:RAt w b F ρ) (L:Lk σ ρ) (G:Good σ) {n:Int} {s:Nd×Nat} (hs:σ.get? n=some s) (hk:s.1.kind=2) :
 Calls Tryz.prog 247 #[.pointer (some ⟨b,0,none⟩),.int .i64 n] w fun e w'=>e=.returned (.agg (Dr 2 Nd.z32 Nd.z32 (Al σ s.1.left) (Al σ s.1.right)))∧Adds w w':=by
 obtain⟨m,x,hnm,hlt,hsm,hx,h0,hsp,hkx,hk0,hle,hri,hv,hkey,hd,ho,hos⟩:=L.some G hs;have hok:=(h.1.nums x (List.mem_of_getElem? hx)).1
 have hdl:∀n,(Al σ n).length=32:=fun n=>by
  unfold Al;split
  · exact Tag.Ab _ _
  cases hs:σ.get? n with
  | none=>rw[B9 hs];rfl
  | some s =>
   obtain⟨d,t,hr,_⟩:=Mp G hs
   have h0:n≠0:=fun e=>by
    have:=BV hs;rw[e,G.fit.zero] at this;cases this
   have e:(nd σ n).digest=t.dig:=by rw[←hr.dig G.fit, ←Da];unfold Al;rw[if_neg h0]
   rw[e];exact CN _
 have hg:=fun w1 (a:Adds w w1)=>CX (h.adds a) n
 rw[hsp] at hg;obtain⟨N,hN⟩:∃N,N=x.cells:=⟨_,rfl⟩
 have hNs:N.size=39∧∀v∈N.toList,v.oneCell'=true:=by rw[hN];exact⟨Sp.AT hok,Sp.cells_one hok⟩
 have k0:N[0]?=some (.int .u8 2):=by rw[hN,Sp.Av,hkx,hk];rfl
 have kl:N[35]?=some (.int .i64 s.1.left):=by rw[hN,Sp.E6 hok,hle]
 have kr:N[36]?=some (.int .i64 s.1.right):=by rw[hN,Sp.EJ hok,hri]
 rw[←hN] at hg;obtain⟨lf,hlf⟩:∃lf,lf=s.1.left:=⟨_,rfl⟩
 obtain⟨rg,hrg⟩:∃rg,rg=s.1.right:=⟨_,rfl⟩
 rw[←hlf] at kl ⊢;rw[←hrg] at kr ⊢;obtain⟨Z,hZ⟩:∃Z,Z=Sp.zero.cells:=⟨_,rfl⟩
 have hzs:=Ey;rw[←hZ] at hzs;obtain⟨Y,hY⟩:∃Y,Y=CV:=⟨_,rfl⟩
 have hyf:=Cy;have hYs:CV.size=129:=rfl;rw[←hY] at hyf hYs;obtain⟨O,hO⟩:∃O,O=Dr 2 Nd.z32 Nd.z32 (Al σ lf) (Al σ rg):=⟨_,rfl⟩
 have hOs:O.size=129∧∀v∈O.toList,v.oneCell'=true:=by rw[hO];exact⟨Fw rfl rfl (hdl _) (hdl _),Gt _ _ _ _ _⟩
 have hbt:=Fk (Al σ lf) (Al σ rg) (hdl _) (hdl _);obtain⟨A,hA⟩:∃A,A=AJ (Al σ lf):=⟨_,rfl⟩
 obtain⟨D,hD⟩:∃D,D=AJ (Al σ rg):=⟨_,rfl⟩
 rw[←hO, ←hA, ←hD] at hbt
 have hl:∀w1,Adds w w1→Calls Tryz.prog 103 #[.pointer (some ⟨b,0,none⟩),.int .i64 lf] w1 fun e w'=>e=.returned (.agg A)∧Adds w1 w':=fun w1 a=>by
  rw[hA];exact Fy (h.adds a) L G lf
 have hr:∀w1,Adds w w1→Calls Tryz.prog 103 #[.pointer (some ⟨b,0,none⟩),.int .i64 rg] w1 fun e w'=>e=.returned (.agg D)∧Adds w1 w':=fun w1 a=>by
  rw[hD];exact Fy (h.adds a) L G rg
 rw[←hO];have HG:=Lib.hid hg;have HN:=(hIq hNs (aIq k0 (aIq kl kr)))
 have HZ:=(hIq hzs (by rw[hZ];exact Sp.AT Sp.BA:Z.size=39))
 have HY:=(hIq hyf hYs)
 have HO:=(hIq hOs hbt)
 have HV:=(hIq hl hr)
 clear hg hNs k0 kl kr hzs hZ hyf hYs hY hOs hbt hl hr hO hA hD hN hok hx hsm hlt h0 hsp hkx hk0 hle hri hv hkey hd ho hos h hlf hrg hs hk hnm hdl;go_enter Tryz.func247,Tryz.ntmps247;go_wp2_with (first|fail|((with_reducible show zOq (.alloc 115));refine AH rfl 115 rfl (.agg Y) HY.out.1.1 ?_;dsimp only[Value.cells];try simp only[World.size_alloc]));refine(HG.out _ ((Ch.refl _ _).alloc _)).mono ?_;rintro e w1 ⟨rfl,hc1⟩;have hyr:=hc1.row (heap_alloc_new w (.cells Y 115)) id;have c0:=AG (AF (heap_alloc_new w1 (.cells Z 254)) N) HN.out.2.1;have C1:=Lib.hid (((Ch.refl (fun _=>False) w).alloc (.cells Y 115)).trans hc1 (fun _=>fEq));have hlt:=Ad hyr;have HY1:=Lib.hid hyr;clear hc1 hyr
 go_upto_region 5 with(first
  | fail
  | ((with_reducible show zOq (.alloc 254));refine AH rfl 254 rfl (.agg Z) HZ.out.1 ?_;dsimp only[Value.cells];try simp only[World.size_alloc])
  | ((with_reducible show zOq (.store 254 _ _));refine AE rfl 254 _ _ rfl w1.heap.size 0 N rfl rfl (heap_alloc_new _ _) (by rw[CJ,HN.out.1.1]) (by rw[HN.out.1.1,HZ.out.2];omega) HN.out.1.2 N (by rw[AI _ _ (by rw[Array.length_toList,Array.length_toList,HN.out.1.1,HZ.out.2])]) ?_))
 have r1:((w1.alloc (.cells Z 254)).setRow w1.heap.size N).heap[w1.heap.size]?=some (.cells N 254 (0,0)):=AF (heap_alloc_new _ _) _;have r2:((w1.alloc (.cells Z 254)).setRow w1.heap.size N).heap[w.heap.size]?=some (.cells Y 115 (0,0)):=row_setRow (AM HY1.out _) (by omega) _;have a2:Adds w ((w1.alloc (.cells Z 254)).setRow w1.heap.size N):=(C1.out.alloc _).setRow (.inr C1.out.size) _;obtain⟨w2,hw2⟩:∃w2,w2=(w1.alloc (.cells Z 254)).setRow w1.heap.size N:=⟨_,rfl⟩
 obtain⟨B,hB⟩:∃B,B=w1.heap.size:=⟨_,rfl⟩
 rw[←hw2] at r1 r2 a2 ⊢;rw[←hB] at r1 ⊢;have HW:=(hIq r1 (aIq r2 a2))
 clear r1 r2 a2 hw2 c0 hlt hB;refine AS (fun wz=>wz.heap[B]?=some (.cells N 254 (0,0))∧wz.heap[w.heap.size]?=some (.cells Y 115 (0,0))∧Adds w wz) 8 [(0,false),(1,false),(2,false),(4,false),(5,false),(6,false),(3,true),(7,true)] (by kernel_rfl) (by kernel_rfl) ?_ ?_
 · exact⟨AQ HW.out.1,AQ HW.out.2.1,HW.out.2.2.drew⟩
 iterate 2
  refine plan_look rfl rfl (fun w0 hS=>(by clear hS;go_simp;try rfl)) ?_;simp only[Act.put,nAq,nBq,nCq]
 refine plan_look (v:=.int .i64 lf) rfl rfl (fun w0 hS=>(by have c:=AG hS.1 HN.out.2.2.1;clear hS;go_simp;try rfl)) ?_;simp only[Act.put,nAq,nBq,nCq]
 iterate 2
  refine plan_look rfl rfl (fun w0 hS=>(by clear hS;go_simp;try rfl)) ?_;simp only[Act.put,nAq,nBq,nCq]
 refine plan_look (v:=.int .i64 rg) rfl rfl (fun w0 hS=>(by have c:=AG hS.1 HN.out.2.2.2;clear hS;go_simp;try rfl)) ?_;simp only[Act.put,nAq,nBq,nCq];refine Ah rfl ?_;go_wp2_with fail;refine(HV.out.1 _ HW.out.2.2.drew).mono ?_;rintro e wa ⟨rfl,aa⟩;have AA:=(hIq (aa.row (AQ HW.out.1) id) (aIq (aa.row (AQ HW.out.2.1) id) (HW.out.2.2.drew.trans aa (fun _=>fEq))))
 clear aa;dsimp only;go_step;refine wpList_nil ?_;change _∧_;refine⟨AA.out,?_⟩;refine Ah rfl ?_;go_wp2_with fail;refine(HV.out.2 _ AA.out.2.2).mono ?_;rintro e wb ⟨rfl,ab⟩;have AB:=(hIq (ab.row AA.out.1 id) (aIq (ab.row AA.out.2.1 id) (AA.out.2.2.trans ab (fun _=>fEq))))
 clear ab;dsimp only;go_step;refine wpList_nil ?_;change _∧_;refine⟨AB.out,?_⟩;refine Ae ?_;simp only[List.drop_succ_cons,List.drop_zero];have hlt:=Ad AB.out.2.1
 go_wp2_with (first
  | fail
  | ((with_reducible show zOq (.build 115 _));refine Cd rfl 115 0 3 4 _ _ _ rfl (.int .u8 2) (.agg A) (.agg D) rfl rfl rfl O HO.out.2 ?_)
  | ((with_reducible show zOq (.store 115 _ _));refine AE rfl 115 _ _ rfl w.heap.size 0 O rfl rfl AB.out.2.1 (by rw[HY.out.1.2.1,HO.out.1.1]) (by rw[HO.out.1.1,HY.out.2];omega) HO.out.1.2 O (by rw[AI _ _ (by rw[Array.length_toList,Array.length_toList,HO.out.1.1,HY.out.2])]) ?_))
 refine NoPanic.normal ?_;go_wp2;exact AN (p:=4) rfl rfl (AF AB.out.2.1 _) Tryz.underlying115 rfl (by rw[HY.out.1.2.1,HO.out.1.1]) rfl ⟨rfl,AB.out.2.2.setRow (.inr (Nat.le_refl _)) _⟩
def GM (σ:AD Nd) (n:Int):Array Value :=
 if (nd σ n).kind=1 then Dr 1 (nd σ n).key (nd σ n).hash Nd.z32 Nd.z32 else if (nd σ n).kind=2 then Dr 2 Nd.z32 Nd.z32 (Al σ (nd σ n).left) (Al σ (nd σ n).right) else CV
theorem UG (h:RAt w b F ρ) (L:Lk σ ρ) (G:Good σ) (n:Int):Calls Tryz.prog 247 #[.pointer (some ⟨b,0,none⟩),.int .i64 n] w fun e w'=>e=.returned (.agg (GM σ n))∧Adds w w':=by
 unfold GM;cases hs:σ.get? n with
 | none =>
  rw[B9 hs];exact QK h (L.none hs)
 | some s =>
  rw[Ay hs];by_cases h1:s.1.kind=1
  · rw[if_pos h1]
    exact PW h L G hs h1
  rw[if_neg h1]
  have h2:s.1.kind=2:=by
   by_cases h2:s.1.kind=2
   · exact h2
   exact absurd (G.fit.leaf (BV hs) h2).1 h1
  rw[if_pos h2];exact Ni h L G hs h2
end
end Go.Proofs.YtooijgcildbnlaaGreat.Store

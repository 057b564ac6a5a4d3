/- Laws of the layers below. -/
import Derived.Test.YtmeglndnkdgkoaaGreatQf21
set_option maxHeartbeats 3200000
set_option maxRecDepth 100000
set_option linter.unusedVariables false
namespace Go.Proofs.YtmeglndnkdgkoaaGreat.Store
open Go.RowKit Go.Proofs.YtmeglndnkdgkoaaGreat.ShaW Go.Proofs.YtmeglndnkdgkoaaGreat.Path Go.Proofs.YtmeglndnkdgkoaaGreat.Law9
theorem sizePairR (w:World):(Go.sizeOf 159).run Tryz.prog w = .ok 33 w:=by
 obtain ⟨i0,z0,p1,p2,p3,p4,p5⟩:=infoPair
 simp [Go.sizeOf,Go.typeInfo,p1,p3,go_sem]
theorem Sp.entry_addr {x:Sp} (h:x.Ok):x.entry[32]? = some x.addr:=by
 rw [← Array.getElem?_toList]
 show (x.key.map bv ++ [x.addr])[32]? = _
 rw [List.getElem?_append_right (by simp [h.key])]
 simp [h.key]
section
variable {w w' : World} {b : Nat} {F : Nat → Prop} {ρ : Rs} {σ : SlabSt Nd}
theorem RAt.valueAt (h:RAt w b F ρ) (n:Int):Bytes w (ρ.sp n).addr (ρ.sp n).value ∧ ∀ k,(ρ.sp n).addr.ownBlock = some k → F k:=by
 have hz:Bytes w Sp.zero.addr Sp.zero.value ∧ ∀ k,Sp.zero.addr.ownBlock = some k → F k:=⟨Bytes.nil _,fun k hk => by cases hk⟩
 rcases ρ.parts n with ho | ⟨m,x,rfl,hm,hx⟩
 · rw [ρ.sp_out ho]; exact hz
 rw [ρ.sp_at hx]
 split
 · exact hz
 obtain ⟨_,_,_,_,_,_,h4,_⟩:=h
 exact ⟨(h4 x (List.mem_of_getElem? hx)).1,fun k hk => ((h4 x (List.mem_of_getElem? hx)).2 k hk).1⟩
theorem RValue_ok (h:RAt w b F ρ) (L:Lk σ ρ) (G:Good σ) (n:Int) :
 Calls Tryz.prog 156 #[.pointer (some ⟨b,0,none⟩),.int .i64 n] w fun e w' => ∃ v,e = .returned v ∧ Bytes w' v (nd σ n).value ∧ (∀ k,v.ownBlock = some k → F k) ∧ Adds w w':=by
 have hg:=Rat_ok h n
 obtain ⟨hok,ho,hs⟩:=h.1.ok n
 have hv:=h.valueAt n
 rw [L.value G] at hv
 obtain ⟨N,hN⟩:∃ N,N = (ρ.sp n).cells:=⟨_,rfl⟩
 obtain ⟨E,hE⟩:∃ E,E = (ρ.sp n).entry:=⟨_,rfl⟩
 obtain ⟨V,hV⟩:∃ V,V = (ρ.sp n).addr:=⟨_,rfl⟩
 have k0:=Sp.at_entry hok
 have k1:=Sp.entry_addr hok
 obtain ⟨ao,len,cap,ha⟩:=hok.addr
 rw [← hV] at ha
 subst ha
 rw [← hN, ← hE] at k0
 rw [← hE, ← hV] at k1
 rw [← hN] at hg
 rw [← hV] at hv
 have hf1:=fun w => run_field_part (P:=Tryz.prog) (w:=w) Tryz.underlying198 (i:=2) rfl (Tryz.isAgg159 w) (sizePairR w) k0
 have hf2:=fun w => run_field_one (P:=Tryz.prog) (w:=w) Tryz.underlying159 (i:=1) rfl (Tryz.isAgg32 w) k1
 have HG:=Lib.hid hg
 have HV:=Lib.hid hv
 clear hg hok ho hs hN k0 k1 hE hV hv h L G
 go_enter Tryz.func156,Tryz.ntmps156
 go_wp2_with fail
 refine HG.out.mono ?_; rintro e w1 ⟨rfl,a1⟩
 have A1:=Lib.hid a1
 clear a1
 go_wp2
 go_ret
 exact ⟨_,rfl,HV.out.1.keep A1.out (fun _ _ h => h),HV.out.2,A1.out⟩
theorem RKey_leaf (h:RAt w b F ρ) (L:Lk σ ρ) (G:Good σ) {n:Int} (hk:(nd σ n).kind = 1) :
 Calls Tryz.prog 153 #[.pointer (some ⟨b,0,none⟩),.int .i64 n] w fun e w' => e = .returned (.agg (brow (nd σ n).key)) ∧ Adds w w':=by
 obtain ⟨s,hs⟩:∃ s,σ.get? n = some s:=by
  cases hx:σ.get? n with
  | none => rw [nd_none hx] at hk; exact absurd (show (0:Nat) = 1 from hk) (by decide)
  | some x => exact ⟨x,rfl⟩
 rw [nd_some hs] at hk ⊢
 have hrep:Rep (sk σ) n 0 (.leaf (stat s.1).key (stat s.1).value):=.leaf (sk_some hs) hk
 obtain ⟨Z,hZ⟩:∃ Z,Z = brow (List.replicate 32 0):=⟨_,rfl⟩
 have hzp:=zeroP
 rw [← hZ] at hzp
 have hZs:Z.size = 32:=by rw [hZ]; rfl
 have a0:Adds w (w.alloc (.cells Z 31)):=(Ch.refl _ w).alloc _
 have hE:=REntries_ok L G hrep (h.adds a0)
 have hg:=fun w1 (a:Adds w w1) => Rat_ok (h.adds a) n
 obtain ⟨N,hN⟩:∃ N,N = (ρ.sp n).cells:=⟨_,rfl⟩
 have k0:N[0]? = some (.int .u8 1):=by
  rw [hN,Sp.at_kind,L.kind G,nd_some hs,hk]; rfl
 rw [← hN] at hg
 have hfd:=fun w => run_field_one (P:=Tryz.prog) (w:=w) Tryz.underlying198 (i:=0) rfl (Tryz.isAgg121 w) k0
 have HE:=Lib.hid hE
 have HG:=Lib.hid hg
 have HZ:=(hIq hzp (aIq hZs a0))
 obtain ⟨K,hK⟩:∃ K,K = brow s.1.key:=⟨_,rfl⟩
 have hkl:s.1.key.length = 32:=(G.fit.all _ _ (sk_some hs)).key
 have hKs:K.size = 32 ∧ ∀ v ∈ K.toList,v.oneCell' = true:=by rw [hK]; exact ⟨by rw [brow_size,hkl],fun v hv => by simp [brow] at hv; obtain ⟨_,_,rfl⟩:=hv; rfl⟩
 have HK:=(hIq hKs hK)
 rw [← hK]
 clear hE hg hzp hZs a0 hN k0 hrep h hZ hKs hK hkl
 go_enter Tryz.func153,Tryz.ntmps153
 go_wp2_with (first
  | fail
  | ((with_reducible show zOq (.alloc 31)); refine wpList_alloc_is rfl 31 rfl (.agg Z) HZ.out.1 ?_; dsimp only [Value.cells]; try simp only [World.size_alloc]))
 refine HE.out.mono ?_; rintro e w1 ⟨v,out,rfl,hp,he,hn,hx,a1⟩
 obtain ⟨ao,cap,rfl⟩:=owns_form hp
 have hlen:out.length = 1:=by
  have:=congrArg List.length he
  simpa [Tr.ents] using this
 obtain ⟨p,rfl⟩:=List.length_eq_one_iff.1 hlen
 have hpe:p.key = s.1.key:=by
  have:=he
  simp [Tr.ents,Pr.ent] at this
  exact this.1
 obtain ⟨g,cap',cur,e1,e2,e3,e4,e5,e6⟩:=owns_block hp (by simp)
 have hcur:cur.extract 0 (0 + 32) = K:=by
  have h2:flatP [p] = p.key.map bv ++ [p.vv]:=by simp [flatP,Pr.list]
  have hpl:p.key.length = 32:=(hx p (List.mem_singleton.2 rfl)).1
  have h1:cur.toList.take 33 = p.key.map bv ++ [p.vv]:=by
   rw [← h2, ← e6]
   rfl
  have h3:cur.toList.take 32 = p.key.map bv:=by
   have h4:(cur.toList.take 33).take 32 = cur.toList.take 32:=by rw [List.take_take]; rfl
   rw [← h4,h1,List.take_append_of_le_length (by simp [hpl]),List.take_of_length_le (by simp [hpl])]
  rw [hpe] at h3
  apply Array.ext'
  rw [Array.toList_extract,HK.out.2]
  simpa [List.extract,brow] using h3
 cases e1
 have hk1:=a1.row (heap_alloc_new w (.cells Z 31)) id
 have A1:=Lib.hid (HZ.out.2.2.trans a1 (fun _ => fEq))
 have H1:=(hIq hk1 (aIq e2 (aIq hcur (by have e3' : [p].length ≤ cap:=e3; simp at e3'; omega:32 ≤ cur.size))))
 have hgb:w.heap.size < g:=by
  have:=(hp.lt g rfl).1
  simp at this
  omega
 clear hp he hn hx a1 hpe e2 e3 e4 e5 e6 hcur hk1
 go_wp2_with fail
 refine (HG.out _ A1.out).mono ?_; rintro e w2 ⟨rfl,a2⟩
 have H2:=(hIq (a2.row H1.out.1 id) (aIq (a2.row H1.out.2.1 id) (A1.out.trans a2 (fun _ => fEq))))
 have hlt:=row_lt H2.out.1
 clear a2
 go_wp2_with (first
  | fail
  | ((with_reducible show zOq (.load 31 _)); refine wpList_load_part rfl 31 _ rfl g 0 rfl H2.out.2.1 Tryz.underlying31 rfl sizeP (by have:=H1.out.2.2.2; omega) K H1.out.2.2.1 ?_)
  | ((with_reducible show zOq (.store 31 _ _)); refine wpList_store_part rfl 31 _ _ rfl w.heap.size 0 K rfl rfl H2.out.1 (by rw [sizeP,HK.out.1.1]) (by rw [HK.out.1.1,HZ.out.2.1]; omega) HK.out.1.2 K (by rw [splice_all _ _ (by rw [Array.length_toList,Array.length_toList,HK.out.1.1,HZ.out.2.1])]) ?_))
 exact bodyPost_ret_cell1 (p:=4) rfl rfl (row_setRow_same H2.out.1 _) Tryz.underlying31 rfl (by rw [sizeP,HK.out.1.1]) rfl ⟨rfl,H2.out.2.2.setRow (.inr (Nat.le_refl _)) _⟩
end
end Go.Proofs.YtmeglndnkdgkoaaGreat.Store
namespace Go.Proofs.YtmeglndnkdgkoaaGreat.Path
open Go.RowKit Go.Proofs.YtmeglndnkdgkoaaGreat.Store
def clr (x:UInt8) (j:Nat):UInt8:=UInt8.ofNat (x.toNat - bbit x j * 2 ^ (7 - j))
theorem clr_bits:∀ (x:Fin 256) (j i:Fin 8),(x.val - x.val / 2 ^ (7 - j.val) % 2 * 2 ^ (7 - j.val)) / 2 ^ (7 - i.val) % 2 = if i.val = j.val then 0 else x.val / 2 ^ (7 - i.val) % 2:=by decide +kernel
theorem clr_nat (x:UInt8) (j:Nat):(clr x j).toNat = x.toNat - bbit x j * 2 ^ (7 - j):=by
 unfold clr
 rw [UInt8.toNat_ofNat']
 exact Nat.mod_eq_of_lt (Nat.lt_of_le_of_lt (Nat.sub_le _ _) x.toNat_lt)
theorem clr_bit (x:UInt8) {i j:Nat} (hi:i < 8) (hj:j < 8):bbit (clr x j) i = if i = j then 0 else bbit x i:=by
 have:=clr_bits ⟨x.toNat,x.toNat_lt⟩ ⟨j,hj⟩ ⟨i,hi⟩
 simp only at this
 unfold bbit
 rw [clr_nat]
 exact this
def setz (k:List UInt8) (d:Nat):List UInt8:=k.set (d / 8) (clr (k.getD (d / 8) 0) (d % 8))
theorem setz_length (k:List UInt8) (d:Nat):(setz k d).length = k.length:=List.length_set
theorem setz_bit {k:List UInt8} (hk:k.length = 32) {d j:Nat} (hd:d < 256) (hj:j < 256):kbit (setz k d) j = if j = d then 0 else kbit k j:=by
 unfold setz kbit
 have e8:d % 8 < 8:=Nat.mod_lt _ (by decide)
 have e9:j % 8 < 8:=Nat.mod_lt _ (by decide)
 by_cases h:j / 8 = d / 8
 · rw [h]
   have hg:(k.set (d / 8) (clr (k.getD (d / 8) 0) (d % 8))).getD (d / 8) 0 = clr (k.getD (d / 8) 0) (d % 8):=by
    rw [List.getD_eq_getElem?_getD,List.getElem?_set_self (by omega)]; rfl
   rw [hg,clr_bit _ e9 e8]
   by_cases e:j = d
   · subst e; simp
   rw [if_neg e,if_neg (by omega)]
 have hg:(k.set (d / 8) (clr (k.getD (d / 8) 0) (d % 8))).getD (j / 8) 0 = k.getD (j / 8) 0:=by
  rw [List.getD_eq_getElem?_getD,List.getElem?_set_ne (Ne.symm h), ← List.getD_eq_getElem?_getD]
 rw [hg,if_neg (fun e => h (by rw [e]))]
theorem kept_more:∀ (x:Fin 256) (k i:Fin 8),0 < k.val → k.val ≤ i.val → x.val / 2 ^ (8 - k.val) * 2 ^ (8 - k.val) / 2 ^ (7 - i.val) % 2 = 0:=by decide +kernel
theorem first_zero {k:List UInt8} (hk:k.length = 32) {d j:Nat} (hj:j < 256) (h:d ≤ j):kbit (Path.first k d) j = 0:=by
 unfold kbit
 obtain ⟨x,hx⟩:∃ x,k[j / 8]? = some x:=⟨_,List.getElem?_eq_getElem (by omega)⟩
 have h1:=firstFrom_get (d:Int) 0 k (j / 8) x hx
 have h2:(Path.first k (d:Int))[j / 8]? = some (kept x ((d:Int) - 8 * (0 + (j / 8:Nat)))):=h1
 simp only [List.getD_eq_getElem?_getD,h2,Option.getD_some]
 have e9:j % 8 < 8:=Nat.mod_lt _ (by decide)
 unfold kept
 by_cases c0:(d:Int) - 8 * (0 + (j / 8:Nat)) ≤ 0
 · rw [if_pos c0]; unfold bbit; simp
 rw [if_neg c0,if_pos (by omega)]
 obtain ⟨m,hm⟩:∃ m:Nat,(d:Int) - 8 * (0 + (j / 8:Nat)) = (m:Int):=⟨((d:Int) - 8 * (0 + (j / 8:Nat))).toNat,by omega⟩
 rw [hm,Int.toNat_natCast]
 have:=kept_more ⟨x.toNat,x.toNat_lt⟩ ⟨m,by omega⟩ ⟨j % 8,e9⟩ (by simp only; omega) (by simp only; omega)
 simp only at this
 unfold bbit
 rw [UInt8.toNat_ofNat',Nat.mod_eq_of_lt (Nat.lt_of_le_of_lt (Nat.div_mul_le_self _ _) x.toNat_lt)]
 exact this
def fillz (k:List UInt8) (d:Nat):Nat → List UInt8
 | 0 => k
 | n + 1 => setz (fillz k d n) (d + n)
theorem fillz_length (k:List UInt8) (d:Nat):∀ n,(fillz k d n).length = k.length
 | 0 => rfl
 | n + 1 => by rw [fillz,setz_length,fillz_length k d n]
theorem fillz_bit {k:List UInt8} (hk:k.length = 32) {d j:Nat} (hj:j < 256):∀ n,d + n ≤ 256 → kbit (fillz k d n) j = if d ≤ j ∧ j < d + n then 0 else kbit k j
 | 0,_ => by rw [fillz,if_neg (by omega)]
 | n + 1,h => by
  rw [fillz,setz_bit (by rw [fillz_length]; exact hk) (by omega) hj,fillz_bit hk hj n (by omega)]
  by_cases e:j = d + n
  · rw [if_pos e,if_pos (by omega)]
  rw [if_neg e]
  by_cases c:d ≤ j ∧ j < d + n
  · rw [if_pos c,if_pos (by omega)]
  rw [if_neg c,if_neg (by omega)]
theorem fillz_first {k:List UInt8} (hk:k.length = 32) {d:Nat} (hd:d ≤ 256):fillz k d (256 - d) = Path.first k d:=by
 refine pre_all (by rw [fillz_length]; exact hk) (by rw [first_length]; exact hk) (fun j hj => ?_)
 rw [fillz_bit hk hj _ (by omega)]
 by_cases c:d ≤ j
 · rw [if_pos ⟨c,by omega⟩,first_zero hk hj c]
 rw [if_neg (fun h => c h.1),first_bit k d j (by omega)]
theorem zeroB32:(Tryz.prog.info? 30).bind (·.zero) = some (.agg (brow (List.replicate 32 0))):=by kernel_rfl
theorem Set_ok (k:List UInt8) (hk:k.length = 32) (d:Nat) (hd:d < 256) (w:World):Calls Tryz.prog 210 #[.agg (brow k),.int .i64 (d:Int),.int .i64 0] w fun e w' => e = .returned (.agg (brow (setz k d))) ∧ Ch (fun _ => False) w w':=by
 have hx:=brow_get (l:=k) (i:=d / 8) (by omega)
 have hkb:kbit k d = bbit (k.getD (d / 8) 0) (d % 8):=rfl
 have hbit:=fun w1 => RBit_in k hk d hd w1
 have hset:(brow k).setIfInBounds (d / 8) (bv (clr (k.getD (d / 8) 0) (d % 8))) = brow (setz k d):=by
  apply Array.ext'
  simp [brow,setz,List.map_set]
 have hcn:=clr_nat (k.getD (d / 8) 0) (d % 8)
 have hcl:=(clr (k.getD (d / 8) 0) (d % 8)).toNat_lt
 have hcx:=(k.getD (d / 8) 0).toNat_lt
 have hk2:=kbit_cases k d
 rw [← hkb] at hcn
 have hle:kbit k d * 2 ^ (7 - d % 8) ≤ (k.getD (d / 8) 0).toNat:=by
  rw [hkb]
  unfold bbit
  have h1:=Nat.div_add_mod ((k.getD (d / 8) 0).toNat / 2 ^ (7 - d % 8)) 2
  have h2:(k.getD (d / 8) 0).toNat / 2 ^ (7 - d % 8) % 2 ≤ (k.getD (d / 8) 0).toNat / 2 ^ (7 - d % 8):=Nat.mod_le _ _
  exact Nat.le_trans (Nat.mul_le_mul_right _ h2) (Nat.div_mul_le_self _ _)
 have hbv:bv (clr (k.getD (d / 8) 0) (d % 8)) = .int .u8 ((clr (k.getD (d / 8) 0) (d % 8)).toNat:Int):=rfl
 generalize k.getD (d / 8) 0 = x at *
 obtain ⟨y,hy⟩:∃ y,y = clr x (d % 8):=⟨_,rfl⟩
 rw [← hy] at hset hcn hcl hbv
 obtain ⟨kb,hkk⟩:∃ kb,kb = kbit k d:=⟨_,rfl⟩
 rw [← hkk] at hcn hk2 hle hbit
 obtain ⟨W,hW⟩:∃ W,W = 2 ^ (7 - d % 8):=⟨_,rfl⟩
 rw [← hW] at hcn hle
 have hW128:W ≤ 128:=by
  rw [hW]
  exact Nat.pow_le_pow_right (by decide) (show 7 - d % 8 ≤ 7 by omega)
 obtain ⟨K,hK⟩:∃ K,K = brow k:=⟨_,rfl⟩
 obtain ⟨K2,hK2⟩:∃ K2,K2 = brow (setz k d):=⟨_,rfl⟩
 have hKs:K.size = 32:=by rw [hK,brow_size,hk]
 have hK2s:K2.size = 32 ∧ ∀ v ∈ K2.toList,v.oneCell' = true:=by rw [hK2]; exact ⟨by rw [brow_size,setz_length,hk],fun v hv => by simp [brow] at hv; obtain ⟨_,_,rfl⟩:=hv; rfl⟩
 rw [← hK, ← hK2] at hset
 rw [← hK] at hx hbit ⊢
 rw [← hK2]
 obtain ⟨Z,hZ⟩:∃ Z,Z = brow (List.replicate 32 0):=⟨_,rfl⟩
 have hz:=zeroB32
 rw [← hZ] at hz
 have hZs:Z.size = 32:=by rw [hZ]; rfl
 obtain ⟨s1,hs1⟩:∃ s1:Int,s1 = 0 - (kb:Int):=⟨_,rfl⟩
 obtain ⟨s2,hs2⟩:∃ s2:Int,s2 = s1 * (W:Int):=⟨_,rfl⟩
 have hs2v:s2 = - ((kb * W:Nat):Int):=by rw [hs2,hs1]; push_cast; rw [Int.zero_sub,Int.neg_mul]
 obtain ⟨xn,hxn⟩:∃ xn,xn = x.toNat:=⟨_,rfl⟩
 obtain ⟨yn,hyn⟩:∃ yn,yn = y.toNat:=⟨_,rfl⟩
 rw [← hyn] at hcn hcl hbv
 rw [← hxn] at hcn hle hcx
 have hs3:(xn:Int) + s2 = (yn:Int):=by rw [hs2v]; omega
 have hw1:IntKind.i64.wrap (0 - (kb:Int)) = s1:=by rw [← hs1]; exact IntWalk.i64_in _ (by omega)
 have hkW:kb * W ≤ 255:=by omega
 have hw2:IntKind.i64.wrap (s1 * (W:Int)) = s2:=by rw [← hs2]; exact IntWalk.i64_in _ (by omega)
 have hw3:IntKind.i64.wrap ((xn:Int) + s2) = (yn:Int):=by rw [hs3]; exact IntWalk.i64_in _ (by omega)
 have hxb:bv x = .int .u8 (xn:Int):=by rw [hxn]
 rw [hxb] at hx
 rw [hbv] at hset
 have hyi:(yn:Int) < 256:=by omega
 have hxi:(xn:Int) < 256:=by omega
 have hw1':IntKind.i64.wrap (-(kb:Int)) = s1:=by rw [← hw1,Int.zero_sub]
 have hwd:IntKind.i64.wrap ((d:Int) / 8) = (d:Int) / 8:=IntWalk.i64_in _ (by omega)
 have n1:(0:Int) ≤ (d:Int) / 8:=by omega
 have n2:(d:Int) / 8 < 32:=by omega
 have n3:((d:Int) / 8).toNat = d / 8:=by omega
 have n4:d / 8 < 32:=by omega
 have HZ:=(hIq hz hZs)
 have HK:=(hIq hKs (aIq hK2s (aIq hset hx)))
 have HB:=Lib.hid hbit
 have HP:=Lib.hid hW
 clear hkb hset hcn hcl hcx hk2 hle hbv hkk hK hK2 hKs hK2s hx hbit hz hZs hZ hs1 hs2 hs2v hxn hyn hs3 hy hxb hW
 go_enter Tryz.func210,Tryz.ntmps210
 go_wp2_with (first
  | fail
  | ((with_reducible show zOq (.alloc 30)); refine wpList_alloc_is rfl 30 rfl (.agg Z) HZ.out.1 ?_; dsimp only [Value.cells]; try simp only [World.size_alloc]))
 go_loopg [7,8] (7 - d % 8) (fun g s7 s8 wr => ∃ i y:Nat,i ≤ 7 - d % 8 ∧ g = 7 - d % 8 - i ∧ s7 = .int .i64 (y:Int) ∧ s8 = .int .i64 (i:Int) ∧ y = 2 ^ i ∧ y ≤ 128 ∧ wr.heap[w.heap.size]? = some (.cells K 30 (0,0)) ∧ wr.heap[w.heap.size + 1]? = some (.cells Z 30 (0,0)) ∧ Ch (fun _ => False) w wr)
 case atStart =>
  refine ⟨0,1,Nat.zero_le _,rfl,rfl,rfl,rfl,by omega,row_alloc (heap_alloc_new _ _) _,?_,((Ch.refl _ _).alloc _).alloc _⟩
  have:=heap_alloc_new (w.alloc (.cells K 30)) (.cells Z 30)
  simpa using this
 obtain ⟨i,y,hi,rfl,rfl,rfl,hy,hy2,hr0,hr1,hch⟩:=hrel
 have HY:=(hIq hy (aIq hr0 (aIq hr1 hch)))
 clear hy hr0 hr1 hch
 have e8:d % 8 < 8:=Nat.mod_lt _ (by decide)
 by_cases hlt:i < 7 - d % 8
 · have p1:decide ((i:Int) < 7 - (d:Int) % 8) = true:=decide_eq_true (by omega)
   have p2:(i:Int) < 7 - (d:Int) % 8:=by omega
   have hy64:y ≤ 64:=by
    rw [HY.out.1]
    exact Nat.pow_le_pow_right (show 0 < 2 by decide) (show i ≤ 6 by omega)
   have hwy:IntKind.i64.wrap (2 * (y:Int)) = 2 * (y:Int):=IntWalk.i64_in _ (by omega)
   go_wp2
   go_roundg (7 - d % 8 - (i + 1))
   case measure => omega
   exact ⟨i + 1,2 * y,by omega,rfl,by push_cast; rfl,by go_num,by rw [HY.out.1,Nat.pow_succ,Nat.mul_comm],by omega,HY.out.2.1,HY.out.2.2.1,HY.out.2.2.2⟩
 have p1:decide ((i:Int) < 7 - (d:Int) % 8) = false:=decide_eq_false (by omega)
 have p2:¬ (i:Int) < 7 - (d:Int) % 8:=by omega
 have hie:i = 7 - d % 8:=by omega
 have hyW:y = W:=by rw [HY.out.1,HP.out,hie]
 subst hyW
 clear hy2 hi hlt hie
 have hwx:IntKind.i64.wrap (xn:Int) = (xn:Int):=IntWalk.i64_in _ (by omega)
 go_upto_region 6 with fail
 refine wp_region_plan (fun wz => wz.heap[w.heap.size]? = some (.cells K 30 (0,0))) 13 [(0,false),(1,false),(2,false),(3,false),(4,false),(5,false),(6,false),(7,false),(10,false),(8,true),(9,false),(11,false),(12,false)] (by kernel_rfl) (by kernel_rfl) ?_ ?_
 · exact row_drew HY.out.2.1
 iterate 2
  refine plan_look rfl rfl (fun w0 hS => (by clear hS; go_simp; try rfl)) ?_
  simp only [Act.put,nAq,nBq,nCq]
 refine plan_look (v:=.pointer (some ⟨w.heap.size,d / 8,none⟩)) rfl rfl (fun w0 hS => (by clear hS; go_simp; try rfl)) ?_
 simp only [Act.put,nAq,nBq,nCq]
 refine plan_look (v:=.int .u8 (xn:Int)) rfl rfl (fun w0 hS => (by have c1:=row_cell hS HK.out.2.2.2; clear hS; go_simp; try rfl)) ?_
 simp only [Act.put,nAq,nBq,nCq]
 refine plan_look (v:=.int .i64 (xn:Int)) rfl rfl (fun w0 hS => (by clear hS; go_simp; try simp [hwx])) ?_
 simp only [Act.put,nAq,nBq,nCq]
 refine plan_look rfl rfl (fun w0 hS => (by clear hS; go_simp; try rfl)) ?_
 simp only [Act.put,nAq,nBq,nCq]
 refine plan_load_part (cur:=K) (t:=30) (fr:=(0,0)) rfl rfl 30 (.tmp 3) rfl w.heap.size 0 32 rfl (fun w0 hS => hS) Tryz.underlying30 rfl sizeB32 (by rw [HK.out.1]; omega) K (by simp [← HK.out.1]) ?_
 simp only [Act.put,nAq,nBq,nCq]
 iterate 2
  refine plan_look rfl rfl (fun w0 hS => (by clear hS; go_simp; try rfl)) ?_
  simp only [Act.put,nAq,nBq,nCq]
 refine plan_do rfl ?_
 go_wp2_with fail
 refine (HB.out _).mono ?_; rintro e w3 ⟨rfl,a3⟩
 have H3:=(hIq (a3.row (row_drew HY.out.2.1) id) (aIq (a3.row (row_drew HY.out.2.2.1) id) (HY.out.2.2.2.drew.trans a3 (fun _ => fEq))))
 clear a3
 dsimp only
 go_step
 refine wpList_nil ?_
 change _ ∧ _
 refine ⟨H3.out.1,?_⟩
 refine plan_look (v:=.int .i64 s1) rfl rfl (fun w0 hS => (by clear hS; go_simp; try simp [hw1,hw1'])) ?_
 simp only [Act.put,nAq,nBq,nCq]
 refine plan_look (v:=.int .i64 s2) rfl rfl (fun w0 hS => (by clear hS; go_simp; try simp [hw2])) ?_
 simp only [Act.put,nAq,nBq,nCq]
 refine plan_look (v:=.int .i64 (yn:Int)) rfl rfl (fun w0 hS => (by clear hS; go_simp; try simp [hw3])) ?_
 simp only [Act.put,nAq,nBq,nCq]
 refine plan_end ?_; simp only [List.drop_succ_cons,List.drop_zero]
 go_wp2
 refine NoPanic.normal ?_
 have c1:=row_cell H3.out.1 HK.out.2.2.2
 have f1:=row_free H3.out.1 (d / 8)
 have l1:=row_lt H3.out.1
 have hset:=row_set_same H3.out.1 (d / 8) (.int .u8 (yn:Int))
 rw [HK.out.2.2.1] at hset
 have hz2:=row_set (p:=⟨w.heap.size,d / 8,none⟩) H3.out.2.1 (by show w.heap.size + 1 ≠ w.heap.size; omega) (.int .u8 (yn:Int))
 have H4:=(hIq hset (aIq hz2 (H3.out.2.2.setCell (p:=⟨w.heap.size,d / 8,none⟩) (.inr (Nat.le_refl _)) (.int .u8 (yn:Int)))))
 clear hset hz2
 go_wp2_with (first
  | fail
  | ((with_reducible show zOq (.load 30 _)); refine wpList_load_part rfl 30 _ rfl w.heap.size 0 rfl H4.out.1 Tryz.underlying30 rfl sizeB32 (by rw [HK.out.2.1.1]; omega) K2 (by simp [← HK.out.2.1.1]) ?_)
  | ((with_reducible show zOq (.store 30 _ _)); refine wpList_store_part rfl 30 _ _ rfl (w.heap.size + 1) 0 K2 rfl rfl H4.out.2.1 (by rw [sizeB32,HK.out.2.1.1]) (by rw [HK.out.2.1.1,HZ.out.2]; omega) HK.out.2.1.2 K2 (by rw [splice_all _ _ (by rw [Array.length_toList,Array.length_toList,HK.out.2.1.1,HZ.out.2])]) ?_))
 exact bodyPost_ret_cell1 (p:=6) rfl rfl (row_setRow_same H4.out.2.1 _) Tryz.underlying30 rfl (by rw [sizeB32,HK.out.2.1.1]) rfl ⟨rfl,H4.out.2.2.setRow (.inr (Nat.le_succ _)) _⟩
theorem brow_ones (k:List UInt8):∀ v ∈ (brow k).toList,v.oneCell' = true:=fun v hv => by simp [brow] at hv; obtain ⟨_,_,rfl⟩:=hv; rfl
theorem Filled_ok (k:List UInt8) (hk:k.length = 32) (d:Nat) (hd:d ≤ 256) (w:World):Calls Tryz.prog 192 #[.agg (brow k),.int .i64 (d:Int),.int .i64 0] w fun e w' => e = .returned (.tuple #[.agg (brow (Path.first k d)),.int .i64 0]) ∧ Ch (fun _ => False) w w':=by
 have hff:=fillz_first hk hd
 obtain ⟨K,hK⟩:∃ K,K = brow k:=⟨_,rfl⟩
 rw [← hff, ← hK]
 obtain ⟨Z,hZ⟩:∃ Z,Z = brow (List.replicate 32 0):=⟨_,rfl⟩
 have hz:=zeroB32
 rw [← hZ] at hz
 have hZs:Z.size = 32:=by rw [hZ]; rfl
 have HZ:=(hIq hz hZs)
 have HK:=Lib.hid hK
 have h0:decide ((d:Int) < 0) = false:=decide_eq_false (by omega)
 have h1:decide (256 < (d:Int)) = false:=decide_eq_false (by omega)
 clear hff hK hz hZs hZ
 go_enter Tryz.func192,Tryz.ntmps192
 go_wp2_with (first
  | fail
  | ((with_reducible show zOq (.alloc 30)); refine wpList_alloc_is rfl 30 rfl (.agg Z) HZ.out.1 ?_; dsimp only [Value.cells]; try simp only [World.size_alloc]))
 go_loopg [8] (256 - d) (fun g s8 wr => ∃ n:Nat,n ≤ 256 - d ∧ g = 256 - d - n ∧ s8 = .int .i64 ((d:Int) + n) ∧ wr.heap[w.heap.size]? = some (.cells (brow (fillz k d n)) 30 (0,0)) ∧ wr.heap[w.heap.size + 1]? = some (.cells Z 30 (0,0)) ∧ Ch (fun _ => False) w wr)
 case atStart =>
  refine ⟨0,Nat.zero_le _,rfl,by simp,?_,?_,((Ch.refl _ _).alloc _).alloc _⟩
  · show _ = some (Obj.cells (brow k) _ _)
    rw [← HK.out]
    exact row_alloc (heap_alloc_new _ _) _
  have:=heap_alloc_new (w.alloc (.cells K 30)) (.cells Z 30)
  simpa using this
 obtain ⟨n,hn,rfl,rfl,hr0,hr1,hch⟩:=hrel
 obtain ⟨C,hC⟩:∃ C,C = brow (fillz k d n):=⟨_,rfl⟩
 have hfl:(fillz k d n).length = 32:=by rw [fillz_length]; exact hk
 have hCs:C.size = 32:=by rw [hC,brow_size,hfl]
 by_cases hlt:n < 256 - d
 · have hs:=fun w1 => Set_ok (fillz k d n) hfl (d + n) (by omega) w1
   obtain ⟨D,hD⟩:∃ D,D = brow (fillz k d (n + 1)):=⟨_,rfl⟩
   have hDs:D.size = 32 ∧ ∀ v ∈ D.toList,v.oneCell' = true:=by rw [hD]; exact ⟨by rw [brow_size,fillz_length,hk],brow_ones _⟩
   rw [show brow (setz (fillz k d n) (d + n)) = D by rw [hD]; rfl, ← hC] at hs
   rw [← hC] at hr0
   obtain ⟨i,hi⟩:∃ i,i = d + n:=⟨_,rfl⟩
   have hii:(d:Int) + (n:Int) = (i:Int):=by omega
   rw [← hi] at hs
   rw [hii]
   have p1:(i:Int) < 256:=by omega
   have HS:=Lib.hid hs
   have HC:=(hIq hCs (aIq hDs (aIq hD hii)))
   have HR:=(hIq hr0 (aIq hr1 hch))
   clear hs hC hD hDs hCs hr0 hr1 hch hi hii hfl
   go_wp2_with (first
    | fail
    | ((with_reducible show zOq (.load 30 _)); refine wpList_load_part rfl 30 _ rfl w.heap.size 0 rfl HR.out.1 Tryz.underlying30 rfl sizeB32 (by rw [HC.out.1]; omega) C (by simp [← HC.out.1]) ?_))
   refine (HS.out _).mono ?_; rintro e w3 ⟨rfl,a3⟩
   have H3:=(hIq (a3.row HR.out.1 id) (aIq (a3.row HR.out.2.1 id) (HR.out.2.2.trans a3 (fun _ => fEq))))
   clear a3
   go_wp2_with (first
    | fail
    | ((with_reducible show zOq (.store 30 _ _)); refine wpList_store_part rfl 30 _ _ rfl w.heap.size 0 D rfl rfl H3.out.1 (by rw [sizeB32,HC.out.2.1.1]) (by rw [HC.out.2.1.1,HC.out.1]; omega) HC.out.2.1.2 D (by rw [splice_all _ _ (by rw [Array.length_toList,Array.length_toList,HC.out.2.1.1,HC.out.1])]) ?_))
   go_roundg (256 - d - (n + 1))
   case measure => omega
   refine ⟨n + 1,by omega,rfl,by have:=HC.out.2.2.2; push_cast; first | (congr 1; omega) | omega,?_,row_setRow H3.out.2.1 (by omega) _,H3.out.2.2.setRow (.inr (Nat.le_refl _)) _⟩
   rw [← HC.out.2.2.1]
   exact row_setRow_same H3.out.1 _
 obtain rfl:n = 256 - d:=by omega
 have hii:(d:Int) + ((256 - d:Nat):Int) = 256:=by omega
 rw [hii]
 rw [← hC] at hr0
 have hone:∀ v ∈ C.toList,v.oneCell' = true:=by rw [hC]; exact brow_ones _
 have HCE:=Lib.hid hC
 have HC:=(hIq hCs hone)
 have HR:=(hIq hr0 (aIq hr1 hch))
 clear hC hCs hone hr0 hr1 hch hii hfl hlt hn
 go_wp2_with (first
  | fail
  | ((with_reducible show zOq (.load 30 _)); refine wpList_load_part rfl 30 _ rfl w.heap.size 0 rfl HR.out.1 Tryz.underlying30 rfl sizeB32 (by rw [HC.out.1]; omega) C (by simp [← HC.out.1]) ?_)
  | ((with_reducible show zOq (.store 30 _ _)); refine wpList_store_part rfl 30 _ _ rfl (w.heap.size + 1) 0 C rfl rfl HR.out.2.1 (by rw [sizeB32,HC.out.1]) (by rw [HC.out.1,HZ.out.2]; omega) HC.out.2 C (by rw [splice_all _ _ (by rw [Array.length_toList,Array.length_toList,HC.out.1,HZ.out.2])]) ?_))
 exact bodyPost_ret_cell (p:=6) (u:=7) rfl rfl (row_setRow_same HR.out.2.1 _) Tryz.underlying30 rfl (by rw [sizeB32,HC.out.1]) rfl ⟨by rw [HCE.out]; rfl,HR.out.2.2.setRow (.inr (Nat.le_succ _)) _⟩
end Go.Proofs.YtmeglndnkdgkoaaGreat.Path
namespace Go.Proofs.YtmeglndnkdgkoaaGreat
open Go.RowKit
section
variable {P : Program} {Q : Exit → Act → World → Prop} {md : Region.Mode} {S : World → Prop}
def wpPlanF (P:Program) (l:List Oper) (Q:Exit → Act → World → Prop) (f:Nat) (S:World → Prop) (n:Nat):List (Nat × Bool) → Act → World → Prop
 | [],a,w => wpOp P l.toArray Q f (fun a' w' => S w' ∧ wpPlan P l Q S n [] a' w') a w
 | (i,false) :: r,a,w => ∃ o v,l[i]? = some o ∧ YieldsIf P l.toArray S o v a ∧ wpPlanF P l Q f S n r (a.put o.dst v) w
 | (i,true) :: r,a,w => wpOp P l.toArray Q i (fun a' w' => S w' ∧ wpPlanF P l Q f S n r a' w') a w ∧ wpOp P l.toArray Q f (fun a' w' => S w' ∧ wpPlan P l Q S n ((i,true) :: r) a' w') a w
def planFB (md:Region.Mode) (ops:Array Oper) (f n:Nat):List (Nat × Bool) → Array Bool → Bool
 | [],listed => decide (f < n) && decide (Region.ready md ops listed = [f]) && planB md ops n [] (listed.setIfInBounds f true)
 | (i,false) :: r,listed => decide (i < n) && (Region.ready md ops listed).contains i && Region.free md ops listed i && planFB md ops f n r (listed.setIfInBounds i true)
 | (i,true) :: r,listed => decide (i < n) && decide (f < n) && (decide (Region.ready md ops listed = [i,f]) || decide (Region.ready md ops listed = [f,i])) && planFB md ops f n r (listed.setIfInBounds i true) && planB md ops n ((i,true) :: r) (listed.setIfInBounds f true)
def regionFB (md:Region.Mode) (ops:Array Oper) (f n:Nat) (p:List (Nat × Bool)):Bool :=
 Region.noSelect ops && decide (p.length + 1 = n) && decide (n ≤ ops.size) && tailB md ops n && planFB md ops f n p (Array.replicate ops.size false)
theorem wpOp_of_list {l:List Oper} {i:Nat} {a:Act} {w:World} {o:Oper} {K:Act → World → Prop} (ho:l[i]? = some o) (h:wpList P l.toArray (Exit.then K Q) [o] a w):wpOp P l.toArray Q i K a w:=by
 have ho':l.toArray[i]? = some o:=by simpa using ho
 unfold wpOp
 simp only [ho']
 unfold wpList at h
 split
 · rename_i hw
   rw [if_pos hw] at h
   refine h.imp (fun h => ?_) id
   unfold Oper.wp at h ⊢
   generalize (execOp a.eval o).run P w = r at h ⊢
   cases r with
   | ok nx w' =>
    cases nx <;> simp only [Oper.upon,wpList,Exit.then] at h ⊢ <;>
     first
      | exact h
      | exact Calls.mono h (fun e w'' he => by cases e <;> exact he)
   | halt x w' => cases x <;> simp only [Oper.upon,Exit.then] at h ⊢ <;> exact h
 rename_i hw
 rw [if_neg hw] at h
 exact h
end
section
variable {P : Program} {Q : Exit → Act → World → Prop} {md : Region.Mode} {S : World → Prop} {q : List (Nat × Bool)}
def wpPlanG (P:Program) (l:List Oper) (Q:Exit → Act → World → Prop) (f:Nat) (S:World → Prop) (n:Nat) (q:List (Nat × Bool)):List (Nat × Bool) → Act → World → Prop
 | [],a,w => wpOp P l.toArray Q f (fun a' w' => S w' ∧ wpPlan P l Q S n q a' w') a w
 | (i,false) :: r,a,w => ∃ o v,l[i]? = some o ∧ YieldsIf P l.toArray S o v a ∧ wpPlanG P l Q f S n q r (a.put o.dst v) w
 | (i,true) :: r,a,w => wpOp P l.toArray Q i (fun a' w' => S w' ∧ wpPlanG P l Q f S n q r a' w') a w ∧ wpOp P l.toArray Q f (fun a' w' => S w' ∧ wpPlan P l Q S n ((i,true) :: (r ++ q)) a' w') a w
def planGB (md:Region.Mode) (ops:Array Oper) (f n:Nat) (q:List (Nat × Bool)):List (Nat × Bool) → Array Bool → Bool
 | [],listed => decide (f < n) && decide (Region.ready md ops listed = [f]) && planB md ops n q (listed.setIfInBounds f true)
 | (i,false) :: r,listed => decide (i < n) && (Region.ready md ops listed).contains i && Region.free md ops listed i && planGB md ops f n q r (listed.setIfInBounds i true)
 | (i,true) :: r,listed => decide (i < n) && decide (f < n) && (decide (Region.ready md ops listed = [i,f]) || decide (Region.ready md ops listed = [f,i])) && planGB md ops f n q r (listed.setIfInBounds i true) && planB md ops n ((i,true) :: (r ++ q)) (listed.setIfInBounds f true)
def regionGB (md:Region.Mode) (ops:Array Oper) (f n:Nat) (q p:List (Nat × Bool)):Bool :=
 Region.noSelect ops && decide (q.length + 1 + p.length = n) && decide (n ≤ ops.size) && tailB md ops n && planGB md ops f n q p (Array.replicate ops.size false)
theorem wpHeadG_of_plan {l:List Oper} {f n:Nat} (hsel:Region.noSelect l.toArray = true) (ht:tailB md l.toArray n = true) (hQ:∀ c a a' w,Q (.panic c) a' w → Q (.panic c) a w) :
 ∀ (p:List (Nat × Bool)) (listed:Array Bool) (a:Act) (w:World),planGB md l.toArray f n q p listed = true → HeadInv md l.toArray n listed → S w → wpPlanG P l Q f S n q p a w →
 wpHead P md l.toArray Q S n (fun listed a w => Region.seqB md l.toArray (l.toArray.size - n) n listed = true ∧ wpList P l.toArray Q (l.drop n) a w) (q.length + 1 + p.length) listed a w
 | [],listed,a,w,hB,inv,hS,h => by
  simp only [planGB,Bool.and_eq_true,decide_eq_true_eq] at hB
  obtain ⟨⟨hfn,hr⟩,hB'⟩:=hB
  refine ⟨by rw [hr]; simp,fun j hj => ?_⟩
  have hjf:j = f:=by rw [hr] at hj; simpa using hj
  subst hjf
  exact ⟨hfn,wpOp_mono (fun a' w' h' => ⟨h'.1,wpHead_of_plan hsel ht hQ q _ a' w' hB' (inv.set hj hfn) h'.1 h'.2⟩) h⟩
 | (i,false) :: r,listed,a,w,hB,inv,hS,h => by
  simp only [planGB,Bool.and_eq_true,decide_eq_true_eq] at hB
  obtain ⟨⟨⟨hin,hr⟩,hf⟩,hB'⟩:=hB
  obtain ⟨o,v,ho,hy,h'⟩:=h
  have hr':i ∈ Region.ready md l.toArray listed:=by simpa using hr
  have ho':l.toArray[i]? = some o:=by simpa using ho
  exact wpHead_first ho' (Region.noSelect_spec hsel) (fun c a w => hQ c _ _ w) ht hin (fun listed a w hL => seqB_ready hL.1) (q.length + 1 + r.length) listed a w inv (Region.free_spec ho' hf) hr' hy hS
   (wpHeadG_of_plan hsel ht hQ r _ _ w hB' (inv.set hr' hin) hS h')
 | (i,true) :: r,listed,a,w,hB,inv,hS,h => by
  simp only [planGB,Bool.and_eq_true,decide_eq_true_eq,Bool.or_eq_true] at hB
  obtain ⟨⟨⟨⟨hin,hfn⟩,hr⟩,hB1⟩,hB2⟩:=hB
  have hmem:∀ j,j ∈ Region.ready md l.toArray listed ↔ j = i ∨ j = f:=fun j => by
   rcases hr with hr | hr
   · rw [hr]; simp
   rw [hr]; simp [or_comm]
  refine ⟨fun h0 => ?_,fun j hj => ?_⟩
  · have:=(hmem i).2 (.inl rfl)
    rw [h0] at this
    cases this
  rcases (hmem j).1 hj with e | e
  · subst e
    exact ⟨hin,wpOp_mono (fun a' w' h' => ⟨h'.1,wpHeadG_of_plan hsel ht hQ r _ a' w' hB1 (inv.set hj hin) h'.1 h'.2⟩) h.1⟩
  subst e
  have hlen:q.length + 1 + r.length = ((i,true) :: (r ++ q)).length:=by simp; omega
  refine ⟨hfn,wpOp_mono (fun a' w' h' => ⟨h'.1,?_⟩) h.2⟩
  show wpHead P md l.toArray Q S n _ (q.length + 1 + r.length) _ _ _
  rw [hlen]
  exact wpHead_of_plan hsel ht hQ ((i,true) :: (r ++ q)) _ a' w' hB2 (inv.set hj hfn) h'.1 h'.2
theorem wp_region_planG {id:Nat} {a:Act} {w:World} {l:List Oper} (f:Nat) (S:World → Prop) (n:Nat) (p q:List (Nat × Bool)) (hm:P.follows .mixedOrders = true)
 (hB:regionGB .any l.toArray f n q p = true) (hS:S w.drew) (h:wpPlanG P l (NoPanic Q) f S n q p a w.drew):(Code.region id l.toArray true).wp P Q a w:=by
 refine wp_region_noPanic ?_
 have hQ:∀ c a a' w,NoPanic Q (.panic c) a' w → NoPanic Q (.panic c) a w:=fun _ _ _ _ h => h.elim
 simp only [regionGB,Bool.and_eq_true,decide_eq_true_eq] at hB
 obtain ⟨⟨⟨⟨hsel,hlen⟩,hn⟩,ht⟩,hp⟩:=hB
 have inv0:HeadInv .any l.toArray n (Array.replicate l.toArray.size false) :=
  ⟨by simp,fun j oj _ hl => (by rw [getD_replicate_false] at hl; cases hl),fun t _ ht => getD_in (by simpa using ht) (getD_replicate_false _ _)⟩
 have H:=wpHeadG_of_plan (md:=.any) hsel ht hQ p _ a _ hp inv0 hS h
 refine wp_region_any hm ?_
 have:=wpAny_of_wpHead (g:=l.toArray.size - n) (fun listed a' w' hL => by
  have hdl:(l.drop n).length = l.toArray.size - n:=by simp
  have:=wpAny_of_seq (md:=.any) (Q':=NoPanic Q) (l.drop n) n listed a' w' (fun j => by simp [List.getElem?_drop]) (by rw [hdl]; exact hL.1) hL.2
  rwa [hdl] at this) _ _ _ _ H
 rw [hlen,show n + (l.toArray.size - n) = l.toArray.size by omega] at this
 exact this
theorem planG_look {l:List Oper} {f n i:Nat} {r:List (Nat × Bool)} {a:Act} {w:World} {o:Oper} {v:Value} (ho:l[i]? = some o) (hw:Region.wanted o (yielded l.toArray a.tmps) = true)
 (hy:∀ w0,S w0 → (execOp a.eval o).run P w0 = .ok (.value v) w0) (h:wpPlanG P l Q f S n q r (a.put o.dst v) w):wpPlanG P l Q f S n q ((i,false) :: r) a w :=
 ⟨o,v,ho,.inl ⟨hw,hy⟩,h⟩
theorem planG_do {l:List Oper} {f n i:Nat} {r:List (Nat × Bool)} {a:Act} {w:World} {o of:Oper} (ho:l[i]? = some o) (hof:l[f]? = some of)
 (h:wpList P l.toArray (Exit.then (fun a' w' => S w' ∧ wpPlanG P l Q f S n q r a' w') Q) [o] a w) (h2:wpList P l.toArray (Exit.then (fun a' w' => S w' ∧ wpPlan P l Q S n ((i,true) :: (r ++ q)) a' w') Q) [of] a w):wpPlanG P l Q f S n q ((i,true) :: r) a w :=
 ⟨wpOp_of_list ho h,wpOp_of_list hof h2⟩
theorem planG_last {l:List Oper} {f n:Nat} {a:Act} {w:World} {of:Oper} (hof:l[f]? = some of)
 (h2:wpList P l.toArray (Exit.then (fun a' w' => S w' ∧ wpPlan P l Q S n q a' w') Q) [of] a w):wpPlanG P l Q f S n q [] a w:=wpOp_of_list hof h2
end
end Go.Proofs.YtmeglndnkdgkoaaGreat

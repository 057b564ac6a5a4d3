/- Laws of the layers below. -/
import Derived.Test.YtmeglndnkdgkoaaGreatQc33
import Derived.Shelf.Sort.Plain
import Derived.Shelf.Slices.In.SortNone2
import Derived.Test.YtmeglndnkdgkoaaGreatChecked
set_option maxHeartbeats 3200000
set_option maxRecDepth 100000
set_option linter.unusedVariables false
namespace Go.Proofs.YtmeglndnkdgkoaaGreat.Store
open Go.RowKit Go.Proofs.YtmeglndnkdgkoaaGreat.ShaW Go.Proofs.YtmeglndnkdgkoaaGreat.Path Go.Proofs.YtmeglndnkdgkoaaGreat.Law9
def Small (W:World) (ao:Option Addr) (len:Nat):Prop := ∀ i,i < len → ∃ (g off:Nat) (x:Act9),ao = some ⟨g,off,none⟩ ∧ x.Good W ∧ PartAt W g (off + i * 35) x.cells ∧ x.val.length ≤ 2000
section
variable {w0 w w' : World} {c s b n i : Nat} {σ : SlabSt Nd} {root : Int} {L : Ents} {A : List (Int × Ents)} {G : Nat → Prop}
def LargeRet (w w':World) (room:Int) (ao:Option Addr) (len:Nat) (e:Ending):Prop := ∃ B,e = .returned (.bool B) ∧ w = w' ∧ (B = false → 1 ≤ room ∧ room ≤ 5000 ∧ len ≤ 16 ∧ Small w ao len)
theorem Large_ok (room:Int) {ao:Option Addr} {len:Nat} (cap:Nat) (ha:ActsAt w ao len) :
 Calls Tryz.prog 19 #[.int .i64 room,.slice ao len cap] w fun e w' => LargeRet w w' room ao len e:=by
 by_cases h1:room < 1
 · clear ha
   have b1:decide (room < 1) = true:=decide_eq_true h1
   go_enter Tryz.func19,Tryz.ntmps19
   go_wp2
   go_ret
   exact ⟨true,rfl,rfl,fun h => (by cases h)⟩
 have b1:decide (room < 1) = false:=decide_eq_false h1
 by_cases h2:5000 < room
 · clear ha
   have b2:decide (5000 < room) = true:=decide_eq_true h2
   go_enter Tryz.func19,Tryz.ntmps19
   go_wp2
   go_ret
   exact ⟨true,rfl,rfl,fun h => (by cases h)⟩
 have b2:decide (5000 < room) = false:=decide_eq_false h2
 by_cases h3:(16:Int) < (len:Int)
 · clear ha
   have b3:decide ((16:Int) < (len:Int)) = true:=decide_eq_true h3
   go_enter Tryz.func19,Tryz.ntmps19
   go_wp2
   go_ret
   exact ⟨true,rfl,rfl,fun h => (by cases h)⟩
 have b3:decide ((16:Int) < (len:Int)) = false:=decide_eq_false h3
 have HA:=(hIq ha (show 1 ≤ room ∧ room ≤ 5000 ∧ len ≤ 16 by omega))
 have hl16:len ≤ 16:=by omega
 clear ha
 go_enter Tryz.func19,Tryz.ntmps19
 go_wp2
 go_loopg [5] len (fun g s5 wr => ∃ k:Nat,k ≤ len ∧ g = len - k ∧ s5 = .int .i64 k ∧ wr = w ∧ Small w ao k)
 case atStart => exact ⟨0,Nat.zero_le _,rfl,rfl,rfl,fun i hi => absurd hi (Nat.not_lt_zero i)⟩
 obtain ⟨k,hk,rfl,rfl,rfl,hsm⟩:=hrel
 have HSM:=Lib.hid hsm
 clear hsm
 by_cases hkl:k < len
 · obtain ⟨g,off,x,rfl,hx,hp⟩:=HA.out.1 k hkl
   have cv:=Law9.PartAt.cellAt hp (Act9.at_val hx.key)
   have HX:=(hIq hx hp)
   obtain ⟨vo,vc,hvv,_⟩:=hx.val.form
   rw [hvv] at cv
   obtain ⟨vl,hvl⟩:∃ vl,vl = x.val.length:=⟨_,rfl⟩
   rw [← hvl] at cv
   have HVL:=Lib.hid hvl
   have hki:(k:Int) < (len:Int):=by omega
   clear hx hp hvv hvl
   by_cases hb:2000 < vl
   · have hbi:(2000:Int) < (vl:Int):=by omega
     go_wp2
     go_ret
     exact ⟨true,rfl,rfl,fun h => (by cases h)⟩
   have hbi:¬ (2000:Int) < (vl:Int):=by omega
   go_wp2
   go_roundg (len - (k + 1))
   case measure => omega
   refine ⟨k + 1,by omega,rfl,by go_num,rfl,fun i hi => ?_⟩
   by_cases e:i = k
   · subst e
     exact ⟨g,off,x,rfl,HX.out.1,HX.out.2,by rw [← HVL.out]; omega⟩
   exact HSM.out i (by omega)
 obtain rfl:k = len:=by omega
 have hki:¬ (k:Int) < (k:Int):=by omega
 go_wp2
 go_ret
 exact ⟨false,rfl,rfl,fun _ => ⟨HA.out.2.1,HA.out.2.2.1,HA.out.2.2.2,HSM.out⟩⟩
def PlayRet (w w':World) (n len:Nat) (e:Ending):Prop := ∃ (c s b:Nat) (σ:SlabSt Nd) (root:Int) (L:Ents) (A:List (Int × Ents)),
 e = .returned (.tuple #[.pointer (some ⟨c,0,none⟩),.bool true]) ∧ ScAt w w' c s b σ σ root (firsts A) (fun k => k < w.heap.size) ∧ Sce σ root L A n len
theorem Play_ok (n:Nat) (h1:1 ≤ n) (h2:n ≤ 65536) {ao:Option Addr} {len:Nat} (cap:Nat) (hs:Small w ao len) (hl:len ≤ 16) :
 Calls Tryz.prog 20 #[.int .i64 (n:Int),.slice ao len cap] w fun e w' => PlayRet w w' n len e:=by
 unfold PlayRet
 have hn:=New9_ok n h1 h2 w
 unfold NewRet at hn
 have HN:=Lib.hid hn
 have HS:=(hIq hs (Sce.new (n:=n) h1 h2))
 clear hn hs h1 h2
 go_enter Tryz.func20,Tryz.ntmps20
 go_wp2_with fail
 refine HN.out.mono ?_; rintro e w1 ⟨c,s,b,rfl,S1⟩
 have H1:=Lib.hid S1
 clear S1
 go_wp2
 go_loopg [7,8] len (fun g s7 s8 wr => ∃ (k:Nat) (σ:SlabSt Nd) (root:Int) (L:Ents) (A:List (Int × Ents)),k ≤ len ∧ g = len - k ∧ s7 = .bool true ∧ s8 = .int .i64 k ∧ ScAt w wr c s b σ σ root (firsts A) (fun k => k < w.heap.size) ∧ Sce σ root L A n k)
 case atStart => exact ⟨0,_,_,_,[],Nat.zero_le _,rfl,rfl,rfl,H1.out,HS.out.2⟩
 obtain ⟨k,σ,root,L,A,hk,rfl,rfl,rfl,hS,hP⟩:=hrel
 have HK:=(hIq hS hP)
 by_cases hkl:k < len
 · obtain ⟨g,off,x,rfl,hx,hp,hv⟩:=HS.out.1 k hkl
   obtain ⟨cur,t,fr,hr,hfit,hext⟩:=hp.keep hS.world id
   have hxs:=Act9.size hx.key
   rw [hxs] at hfit hext
   have hdo:=Do_ok hS hP (by omega) x hx hv
   unfold DoRet at hdo
   obtain ⟨C,hC⟩:∃ C,C = x.cells:=⟨_,rfl⟩
   rw [← hC] at hext hdo hxs
   have HD:=Lib.hid hdo
   have HR:=(hIq hr (aIq hfit hext))
   have hki:decide ((k:Int) < (len:Int)) = true:=decide_eq_true (by omega)
   clear hr hfit hext hdo hC hx hp hxs hS hP hv
   go_wp2_with (first
    | fail
    | ((with_reducible show zOq (.load 47 _)); refine wpList_load_part rfl 47 _ rfl g (off + k * 35) rfl HR.out.1 Tryz.underlying47 rfl sizeAct9 HR.out.2.1 C HR.out.2.2 ?_))
   refine HD.out.mono ?_; rintro e w3 ⟨rfl,σ',root',L',A',S3,P3⟩
   have H3:=(hIq S3 P3)
   clear S3 P3
   go_wp2
   go_roundg (len - (k + 1))
   case measure => omega
   exact ⟨k + 1,σ',root',L',A',by omega,rfl,rfl,by go_num,H3.out.1,H3.out.2⟩
 obtain rfl:k = len:=by omega
 have hki:decide ((k:Int) < (k:Int)) = false:=decide_eq_false (by omega)
 clear hS hP
 go_wp2
 go_ret2
 exact ⟨c,s,b,σ,root,L,A,rfl,HK.out.1,HK.out.2⟩
end
end Go.Proofs.YtmeglndnkdgkoaaGreat.Store
namespace Go.Proofs.YtmeglndnkdgkoaaGreat
open Go.Shelf
def sortInts_ren:Go.Shelf.Ren:=⟨fun | 125 => 206 | 128 => 230 | 129 => 231 | 189 => 188 | 191 => 126 | 215 => 244 | 216 => 227 | 257 => 205 | 294 => 221 | 295 => 222 | 296 => 223 | 297 => 224 | 298 => 225 | 299 => 226 | 300 => 228 | 301 => 229 | 328 => 239 | 329 => 240 | 330 => 241 | 331 => 242 | 332 => 243 | 343 => 260 | n => n,fun | 0 => 0 | 3 => 3 | 4 => 4 | 5 => 5 | 9 => 9 | 28 => 43 | 46 => 260 | 51 => 282 | 53 => 284 | 131 => 279 | 182 => 273 | 183 => 274 | 218 => 295 | 222 => 299 | 228 => 311 | 229 => 154 | n => n,fun | n => n⟩
end Go.Proofs.YtmeglndnkdgkoaaGreat

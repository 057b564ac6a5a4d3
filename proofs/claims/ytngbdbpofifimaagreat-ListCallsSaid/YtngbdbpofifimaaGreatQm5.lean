/- Laws of the layers below. -/
import Derived.Test.YtngbdbpofifimaaGreatQm1
import Derived.Test.YtngbdbpofifimaaGreatProg
import Derived.BigQuiet
import Derived.StillTailTactics
import Derived.IntWalk
import Derived.Deep.LoopGhost
import Derived.Deep.DeepMust
set_option maxHeartbeats 3200000
set_option maxRecDepth 100000
set_option linter.unusedVariables false
namespace Go.Proofs.YtngbdbpofifimaaGreat.Sha
def kc:List UInt32 := [1116352408,1899447441,3049323471,3921009573,961987163,1508970993,2453635748,2870763221,3624381080,310598401,607225278,1426881987,1925078388,2162078206,2614888103,3248222580,3835390401,4022224774,264347078,604807628,770255983,1249150122,1555081692,1996064986,2554220882,2821834349,2952996808,3210313671,3336571891,3584528711,113926993,338241895,666307205,773529912,1294757372,1396182291,1695183700,1986661051,2177026350,2456956037,2730485921,2820302411,3259730800,3345764771,3516065817,3600352804,4094571909,275423344,430227734,506948616,659060556,883997877,958139571,1322822218,1537002063,1747873779,1955562222,2024104815,2227730452,2361852424,2428436474,2756734187,3204031479,3329325298]
def h0:List UInt32 := [1779033703,3144134277,1013904242,2773480762,1359893119,2600822924,528734635,1541459225]
def be (a b c d:UInt8):UInt32:=(((a.toUInt32 <<< 24) ||| (b.toUInt32 <<< 16)) ||| (c.toUInt32 <<< 8)) ||| d.toUInt32
def word (b:List UInt8) (i:Nat):UInt32:=be (b.getD (4*i) 0) (b.getD (4*i+1) 0) (b.getD (4*i+2) 0) (b.getD (4*i+3) 0)
def w16 (b:List UInt8) (k:Nat):List UInt32:=(List.range k).map (word b)
def T4 (x:UInt32):UInt32:=(Cg x 17 ^^^ Cg x 19) ^^^ (x >>> 10)
def Ua (y:UInt32):UInt32:=(Cg y 7 ^^^ Cg y 18) ^^^ (y >>> 3)
def next (w:List UInt32):UInt32:=((T4 (w.getD (w.length-2) 0)+w.getD (w.length-7) 0)+Ua (w.getD (w.length-15) 0))+w.getD (w.length-16) 0
def ext (w:List UInt32):Nat→List UInt32
 | 0=>w
 | n+1=>ext w n ++ [next (ext w n)]
def sched (b:List UInt8):List UInt32:=ext (w16 b 16) 48
def round (k w:UInt32) (v:List UInt32):List UInt32 :=
 let a:=v.getD 0 0;let e:=v.getD 4 0
 let one:=(((v.getD 7 0+((Cg e 6 ^^^ Cg e 11) ^^^ Cg e 25))+((e &&& v.getD 5 0) ^^^ (~~~ e &&& v.getD 6 0)))+k)+w
 let two:=((Cg a 2 ^^^ Cg a 13) ^^^ Cg a 22)+(((a &&& v.getD 1 0) ^^^ (a &&& v.getD 2 0)) ^^^ (v.getD 1 0 &&& v.getD 2 0))
 [one+two,a,v.getD 1 0,v.getD 2 0,v.getD 3 0+one,e,v.getD 5 0,v.getD 6 0]
def rounds (w:List UInt32) (h:List UInt32):Nat→List UInt32
 | 0=>h
 | n+1=>round (kc.getD n 0) (w.getD n 0) (rounds w h n)
def step (h:List UInt32) (b:List UInt8):List UInt32:=List.zipWith (· + ·) h (rounds (sched b) h 64)
def run (h:List UInt32):Nat→List UInt8→List UInt32
 | 0,_=>h
 | n+1,l=>run (step h (l.take 64)) n (l.drop 64)
def words (l:List UInt8):List UInt32:=run h0 (l.length / 64) l
def rest (l:List UInt8):List UInt8:=l.drop (64*(l.length / 64))
def be4 (x:UInt32):List UInt8 := [(x >>> 24).toUInt8,(x >>> 16).toUInt8,(x >>> 8).toUInt8,x.toUInt8]
def Jw (n:Nat):Nat:=(55+64-n % 64) % 64
def len8 (n:Nat):List UInt8:=be4 (UInt32.ofNat (n*8 / 4294967296))++be4 (UInt32.ofNat (n*8))
def pad (l:List UInt8):List UInt8:=l ++ [128]++List.replicate (Jw l.length) 0++len8 l.length
def sum (l:List UInt8):List UInt8:=(words (pad l)).flatMap be4
theorem Hm (w:List UInt32):∀n,(ext w n).length=w.length+n
 | 0=>rfl
 | n+1=>by simp[ext,Hm w n];omega
theorem Ef (b:List UInt8) (k:Nat):(w16 b k).length=k:=by simp[w16]
theorem FP (b:List UInt8):(sched b).length=64:=by rw[sched,Hm,Ef]
theorem TF (b:List UInt8) (k:Nat):w16 b (k+1)=w16 b k ++ [word b k]:=by simp[w16,List.range_succ]
theorem E3 (w h:List UInt32) (hh:h.length=8):∀n,(rounds w h n).length=8
 | 0=>hh
 | n+1=>rfl
theorem Es (h:List UInt32) (b:List UInt8) (hh:h.length=8):(step h b).length=8:=by
 rw[step,List.length_zipWith,E3 _ _ hh,hh];rfl
theorem OZ (n:Nat):∀(h:List UInt32) (l:List UInt8),h.length=8→(run h n l).length=8:=by
 induction n with
 | zero=>intro h l hh;exact hh
 | succ n ih=>intro h l hh;exact ih _ _ (Es _ _ hh)
theorem Ca (l:List UInt8):(words l).length=8:=OZ _ _ _ rfl
theorem TE (n:Nat):∀(h:List UInt32) (l:List UInt8),run h (n+1) l=step (run h n l) ((l.drop (64*n)).take 64):=by
 induction n with
 | zero=>intro h l;simp[run]
 | succ n ih =>
  intro h l
  show run (step h (l.take 64)) (n+1) (l.drop 64)=_
  rw[ih]
  show step (run h (n+1) l) _=_
  rw[List.drop_drop,show 64+64*n=64*(n+1) by omega]
theorem Jm (n:Nat):∀(h:List UInt32) (l m:List UInt8),64*n≤l.length→run h n (l++m)=run h n l:=by
 induction n with
 | zero=>intro h l m _;rfl
 | succ n ih =>
  intro h l m hl
  show run (step h ((l++m).take 64)) n ((l++m).drop 64)=run (step h (l.take 64)) n (l.drop 64)
  rw[List.take_append_of_le_length (by omega),List.drop_append_of_le_length (by omega)];exact ih _ _ _ (by simp;omega)
theorem JI (l:List UInt8):(rest l).length=l.length % 64:=by
 simp[rest];omega
theorem VA {l m:List UInt8} (h:l.length % 64+m.length<64):words (l++m)=words l∧rest (l++m)=rest l++m:=by
 have e:(l++m).length / 64=l.length / 64:=by simp;omega
 unfold words rest;rw[e];refine⟨Jm _ _ _ _ (by omega),?_⟩;rw[List.drop_append_of_le_length (by omega)]
theorem RA {l m:List UInt8} (h:l.length % 64+m.length=64):words (l++m)=step (words l) (rest l++m)∧rest (l++m) = []:=by
 have e:(l++m).length / 64=l.length / 64+1:=by simp;omega
 have e2:(l++m).length=64*(l.length / 64+1):=by simp;omega
 unfold words rest;rw[e];refine⟨?_,?_⟩
 · rw[TE,Jm _ _ _ _ (by omega),List.drop_append_of_le_length (by omega)]
   congr 1
   rw[List.take_of_length_le];simp;omega
 rw[List.drop_eq_nil_of_le (by omega)]
end Go.Proofs.YtngbdbpofifimaaGreat.Sha
namespace Go.Proofs.YtngbdbpofifimaaGreat.ShaW
open Go.RowKit
theorem Wa (x:UInt32) (w:World):Calls Tryz.prog 308 #[wv x,.int .i64 (-2)] w fun e w'=>e=.returned (wv (Cg x 2))∧w=w':=by
 have hb:bits .and .u64 (IntKind.u64.wrap (-2)) 31=30:=by decide +kernel
 go_enter Tryz.func308,Tryz.ntmps308;go_wp2;go_ret;exact⟨congrArg (fun z=>Ending.returned (.int .u32 z)) (E4 x 2 1073741824 4 (by omega) (by omega) rfl rfl),rfl⟩
theorem V1 (x:UInt32) (w:World):Calls Tryz.prog 275 #[wv x,.int .i64 2] w fun e w'=>e=.returned (wv (Cg x 2))∧w=w':=by
 go_enter Tryz.func275,Tryz.ntmps275;go_wp2_with fail;refine(Wa x w).mono ?_;rintro e w1 ⟨rfl,rfl⟩;go_wp2;go_ret;exact⟨rfl,rfl⟩
theorem WO (x:UInt32) (w:World):Calls Tryz.prog 308 #[wv x,.int .i64 (-6)] w fun e w'=>e=.returned (wv (Cg x 6))∧w=w':=by
 have hb:bits .and .u64 (IntKind.u64.wrap (-6)) 31=26:=by decide +kernel
 go_enter Tryz.func308,Tryz.ntmps308;go_wp2;go_ret;exact⟨congrArg (fun z=>Ending.returned (.int .u32 z)) (E4 x 6 67108864 64 (by omega) (by omega) rfl rfl),rfl⟩
theorem Vd (x:UInt32) (w:World):Calls Tryz.prog 275 #[wv x,.int .i64 6] w fun e w'=>e=.returned (wv (Cg x 6))∧w=w':=by
 go_enter Tryz.func275,Tryz.ntmps275;go_wp2_with fail;refine(WO x w).mono ?_;rintro e w1 ⟨rfl,rfl⟩;go_wp2;go_ret;exact⟨rfl,rfl⟩
theorem WT (x:UInt32) (w:World):Calls Tryz.prog 308 #[wv x,.int .i64 (-7)] w fun e w'=>e=.returned (wv (Cg x 7))∧w=w':=by
 have hb:bits .and .u64 (IntKind.u64.wrap (-7)) 31=25:=by decide +kernel
 go_enter Tryz.func308,Tryz.ntmps308;go_wp2;go_ret;exact⟨congrArg (fun z=>Ending.returned (.int .u32 z)) (E4 x 7 33554432 128 (by omega) (by omega) rfl rfl),rfl⟩
theorem V7 (x:UInt32) (w:World):Calls Tryz.prog 275 #[wv x,.int .i64 7] w fun e w'=>e=.returned (wv (Cg x 7))∧w=w':=by
 go_enter Tryz.func275,Tryz.ntmps275;go_wp2_with fail;refine(WT x w).mono ?_;rintro e w1 ⟨rfl,rfl⟩;go_wp2;go_ret;exact⟨rfl,rfl⟩
theorem V3 (x:UInt32) (w:World):Calls Tryz.prog 308 #[wv x,.int .i64 (-11)] w fun e w'=>e=.returned (wv (Cg x 11))∧w=w':=by
 have hb:bits .and .u64 (IntKind.u64.wrap (-11)) 31=21:=by decide +kernel
 go_enter Tryz.func308,Tryz.ntmps308;go_wp2;go_ret;exact⟨congrArg (fun z=>Ending.returned (.int .u32 z)) (E4 x 11 2097152 2048 (by omega) (by omega) rfl rfl),rfl⟩
theorem U1 (x:UInt32) (w:World):Calls Tryz.prog 275 #[wv x,.int .i64 11] w fun e w'=>e=.returned (wv (Cg x 11))∧w=w':=by
 go_enter Tryz.func275,Tryz.ntmps275;go_wp2_with fail;refine(V3 x w).mono ?_;rintro e w1 ⟨rfl,rfl⟩;go_wp2;go_ret;exact⟨rfl,rfl⟩
theorem WC (x:UInt32) (w:World):Calls Tryz.prog 308 #[wv x,.int .i64 (-13)] w fun e w'=>e=.returned (wv (Cg x 13))∧w=w':=by
 have hb:bits .and .u64 (IntKind.u64.wrap (-13)) 31=19:=by decide +kernel
 go_enter Tryz.func308,Tryz.ntmps308;go_wp2;go_ret;exact⟨congrArg (fun z=>Ending.returned (.int .u32 z)) (E4 x 13 524288 8192 (by omega) (by omega) rfl rfl),rfl⟩
theorem UN (x:UInt32) (w:World):Calls Tryz.prog 275 #[wv x,.int .i64 13] w fun e w'=>e=.returned (wv (Cg x 13))∧w=w':=by
 go_enter Tryz.func275,Tryz.ntmps275;go_wp2_with fail;refine(WC x w).mono ?_;rintro e w1 ⟨rfl,rfl⟩;go_wp2;go_ret;exact⟨rfl,rfl⟩
theorem WM (x:UInt32) (w:World):Calls Tryz.prog 308 #[wv x,.int .i64 (-17)] w fun e w'=>e=.returned (wv (Cg x 17))∧w=w':=by
 have hb:bits .and .u64 (IntKind.u64.wrap (-17)) 31=15:=by decide +kernel
 go_enter Tryz.func308,Tryz.ntmps308;go_wp2;go_ret;exact⟨congrArg (fun z=>Ending.returned (.int .u32 z)) (E4 x 17 32768 131072 (by omega) (by omega) rfl rfl),rfl⟩
theorem UL (x:UInt32) (w:World):Calls Tryz.prog 275 #[wv x,.int .i64 17] w fun e w'=>e=.returned (wv (Cg x 17))∧w=w':=by
 go_enter Tryz.func275,Tryz.ntmps275;go_wp2_with fail;refine(WM x w).mono ?_;rintro e w1 ⟨rfl,rfl⟩;go_wp2;go_ret;exact⟨rfl,rfl⟩
theorem Vi (x:UInt32) (w:World):Calls Tryz.prog 308 #[wv x,.int .i64 (-18)] w fun e w'=>e=.returned (wv (Cg x 18))∧w=w':=by
 have hb:bits .and .u64 (IntKind.u64.wrap (-18)) 31=14:=by decide +kernel
 go_enter Tryz.func308,Tryz.ntmps308;go_wp2;go_ret;exact⟨congrArg (fun z=>Ending.returned (.int .u32 z)) (E4 x 18 16384 262144 (by omega) (by omega) rfl rfl),rfl⟩
theorem T3 (x:UInt32) (w:World):Calls Tryz.prog 275 #[wv x,.int .i64 18] w fun e w'=>e=.returned (wv (Cg x 18))∧w=w':=by
 go_enter Tryz.func275,Tryz.ntmps275;go_wp2_with fail;refine(Vi x w).mono ?_;rintro e w1 ⟨rfl,rfl⟩;go_wp2;go_ret;exact⟨rfl,rfl⟩
theorem V5 (x:UInt32) (w:World):Calls Tryz.prog 308 #[wv x,.int .i64 (-19)] w fun e w'=>e=.returned (wv (Cg x 19))∧w=w':=by
 have hb:bits .and .u64 (IntKind.u64.wrap (-19)) 31=13:=by decide +kernel
 go_enter Tryz.func308,Tryz.ntmps308;go_wp2;go_ret;exact⟨congrArg (fun z=>Ending.returned (.int .u32 z)) (E4 x 19 8192 524288 (by omega) (by omega) rfl rfl),rfl⟩
theorem T1 (x:UInt32) (w:World):Calls Tryz.prog 275 #[wv x,.int .i64 19] w fun e w'=>e=.returned (wv (Cg x 19))∧w=w':=by
 go_enter Tryz.func275,Tryz.ntmps275;go_wp2_with fail;refine(V5 x w).mono ?_;rintro e w1 ⟨rfl,rfl⟩;go_wp2;go_ret;exact⟨rfl,rfl⟩
theorem Ve (x:UInt32) (w:World):Calls Tryz.prog 308 #[wv x,.int .i64 (-22)] w fun e w'=>e=.returned (wv (Cg x 22))∧w=w':=by
 have hb:bits .and .u64 (IntKind.u64.wrap (-22)) 31=10:=by decide +kernel
 go_enter Tryz.func308,Tryz.ntmps308;go_wp2;go_ret;exact⟨congrArg (fun z=>Ending.returned (.int .u32 z)) (E4 x 22 1024 4194304 (by omega) (by omega) rfl rfl),rfl⟩
theorem UK (x:UInt32) (w:World):Calls Tryz.prog 275 #[wv x,.int .i64 22] w fun e w'=>e=.returned (wv (Cg x 22))∧w=w':=by
 go_enter Tryz.func275,Tryz.ntmps275;go_wp2_with fail;refine(Ve x w).mono ?_;rintro e w1 ⟨rfl,rfl⟩;go_wp2;go_ret;exact⟨rfl,rfl⟩
theorem Vk (x:UInt32) (w:World):Calls Tryz.prog 308 #[wv x,.int .i64 (-25)] w fun e w'=>e=.returned (wv (Cg x 25))∧w=w':=by
 have hb:bits .and .u64 (IntKind.u64.wrap (-25)) 31=7:=by decide +kernel
 go_enter Tryz.func308,Tryz.ntmps308;go_wp2;go_ret;exact⟨congrArg (fun z=>Ending.returned (.int .u32 z)) (E4 x 25 128 33554432 (by omega) (by omega) rfl rfl),rfl⟩
theorem UZ (x:UInt32) (w:World):Calls Tryz.prog 275 #[wv x,.int .i64 25] w fun e w'=>e=.returned (wv (Cg x 25))∧w=w':=by
 go_enter Tryz.func275,Tryz.ntmps275;go_wp2_with fail;refine(Vk x w).mono ?_;rintro e w1 ⟨rfl,rfl⟩;go_wp2;go_ret;exact⟨rfl,rfl⟩
theorem Sy (w:World):Calls Tryz.prog 245 #[] w fun e w'=>e=.returned (.agg (B6 Sha.h0))∧Ch (fun _=>False) w w':=by
 go_enter Tryz.func245,Tryz.ntmps245;go_wp2;exact Af (p:=0) rfl rfl (heap_alloc_new _ _) Tryz.underlying333 rfl (by kernel_rfl) rfl ⟨rfl,(Ch.refl _ _).alloc _⟩
def Fy (n:Nat):Array Value:=(List.replicate n (Value.int .u32 0)).toArray
theorem OK:(Tryz.prog.info? 361).bind (·.zero)=some (.agg (Fy 64)):=by kernel_rfl
theorem He:(Tryz.prog.info? 361).map (·.size)=some 64:=by kernel_rfl
theorem MZ (w:World):Calls Tryz.prog 274 #[] w fun e w'=>e=.returned (.agg (B6 Sha.kc))∧Ch (fun _=>False) w w':=by
 obtain⟨K,hK⟩:∃K,B6 Sha.kc=K:=⟨_,rfl⟩
 have hs:K.size=64:=by rw[←hK];rfl
 have h1:=EX Sha.kc;rw[hK] at h1 ⊢;obtain⟨Z,hZ⟩:∃Z,Fy 64=Z:=⟨_,rfl⟩
 have z0:=OK;have z1:Z.size=64:=by rw[←hZ];rfl
 rw[hZ] at z0;have HK:=Lib.hid hK;have HS:=Lib.hid hs;have H1:=Lib.hid h1;have Z0:=Lib.hid z0;have Z1:=Lib.hid z1;clear hK hs h1 z0 z1 hZ;go_enter Tryz.func274,Tryz.ntmps274
 go_wp2_with (first
  | ((with_reducible show zOq (.alloc 361));refine AO rfl 361 rfl (.agg Z) Z0.out ?_;dsimp only[Value.cells])
  | ((with_reducible show zOq (.build 361 _));refine wpList_build_is rfl 361 _ rfl K (by rw[←HK.out];kernel_rfl) ?_)
  | ((with_reducible show zOq (.store 361 _ _));refine AI rfl 361 _ _ rfl w.heap.size 0 K rfl rfl (heap_alloc_new _ _) (by rw[He,HS.out]) (by rw[HS.out,Z1.out];omega) H1.out K (by rw[AT _ _ (by rw[Array.length_toList,Array.length_toList,HS.out,Z1.out])]) ?_))
 exact Af (p:=0) rfl rfl (AK (heap_alloc_new _ _) _) Tryz.underlying361 rfl (by rw[He,HS.out]) rfl ⟨rfl,((Ch.refl _ _).alloc _).setRow (.inr (Nat.le_refl _)) _⟩
def EI (l:List UInt32):List UInt32:=l++List.replicate (64-l.length) 0
theorem QG:B6 (EI [])=Fy 64:=by simp[EI,B6,Fy]
theorem OF {l:List UInt32} (h:l.length=64):EI l=l:=by simp[EI,h]
theorem Mb {l:List UInt32} (h:l.length≤64):(EI l).length=64:=by simp[EI];omega
theorem QT {l:List UInt32} {i:Nat} (h:i<l.length):(B6 (EI l))[i]?=some (wv (l.getD i 0)):=by
 have:(List.map wv (l++List.replicate (64-l.length) 0))[i]?=some (wv (l.getD i 0)):=by
  rw[List.getElem?_map,List.getElem?_append_left h];simp[h]
 simpa[B6,EI] using this
theorem KT {l:List UInt32} (h:l.length≤64) {i:Nat} (hi:i<64):∃v,(B6 (EI l))[i]?=some v :=
 ⟨_,Array.getElem?_eq_getElem (by rw[Cy,Mb h];exact hi)⟩
theorem Ll {l:List UInt32} (h:l.length<64) (x:UInt32):(B6 (EI l)).setIfInBounds l.length (wv x)=B6 (EI (l ++ [x])):=by
 apply Array.ext';rw[Array.toList_setIfInBounds];simp only[B6,EI];rw[←List.map_set,List.set_append_right _ _ (Nat.le_refl _),Nat.sub_self];obtain⟨r,hr⟩:∃r,64-l.length=r+1:=⟨63-l.length,by omega⟩
 rw[hr,List.replicate_succ,List.set_cons_zero,List.length_append,List.length_singleton,show 64-(l.length+1)=r by omega];simp
theorem V0 (a b c d:UInt8):bits .or .u32 (bits .or .u32 (bits .or .u32 ((a.toNat:Int) % (4294967296:Int)*(16777216:Int) % (4294967296:Int)) ((b.toNat:Int) % (4294967296:Int)*(65536:Int) % (4294967296:Int))) ((c.toNat:Int) % (4294967296:Int)*(256:Int) % (4294967296:Int))) ((d.toNat:Int) % (4294967296:Int))=((Sha.be a b c d).toNat:Int):=by
 have e:∀x:UInt8,(x.toNat:Int) % (4294967296:Int)=(x.toUInt32.toNat:Int):=fun x=>by
  have:=x.toNat_lt;simp;omega
 have h24:∀x:UInt32,(x.toNat:Int)*(16777216:Int) % (4294967296:Int)=((x <<< 24).toNat:Int):=fun x=>U7 x
 have h16:∀x:UInt32,(x.toNat:Int)*(65536:Int) % (4294967296:Int)=((x <<< 16).toNat:Int):=fun x=>UJ x
 have h8:∀x:UInt32,(x.toNat:Int)*(256:Int) % (4294967296:Int)=((x <<< 8).toNat:Int):=fun x=>Vq x
 rw[e a,e b,e c,e d,h24,h16,h8,Uk,Uk,Uk];rfl
theorem TS (x:UInt32):bits .xor .u32 (bits .xor .u32 ((Cg x 17).toNat:Int) ((Cg x 19).toNat:Int)) ((x.toNat:Int) / (1024:Int))=((Sha.T4 x).toNat:Int):=by
 have h:(x.toNat:Int) / (1024:Int)=((x >>> 10).toNat:Int):=UG x;rw[h,K8,K8];rfl
theorem Rv (x:UInt32):bits .xor .u32 (bits .xor .u32 ((Cg x 7).toNat:Int) ((Cg x 18).toNat:Int)) ((x.toNat:Int) / (8:Int))=((Sha.Ua x).toNat:Int):=by
 have h:(x.toNat:Int) / (8:Int)=((x >>> 3).toNat:Int):=Vu x;rw[h,K8,K8];rfl
theorem Mk (b:List UInt8) (hb:b.length=64) (w:World):Calls Tryz.prog 273 #[.agg (AS b)] w fun e w'=>e=.returned (.agg (B6 (Sha.sched b)))∧Ch (fun _=>False) w w':=by
 have z0:=OK;obtain⟨Z,hZ⟩:∃Z,Fy 64=Z:=⟨_,rfl⟩
 obtain⟨B,hB⟩:∃B,AS b=B:=⟨_,rfl⟩
 have hBs:B.size=64:=by rw[←hB,AU,hb]
 rw[hZ] at z0;rw[hB];have Z0:=Lib.hid z0;have HZ:=Lib.hid hZ;have HB:=Lib.hid hB;have HBS:=Lib.hid hBs;have HBL:=Lib.hid hb;clear z0 hZ hB hBs hb;go_enter Tryz.func273,Tryz.ntmps273;go_wp2_with (first|((with_reducible show zOq (.alloc 361));refine AO rfl 361 rfl (.agg Z) Z0.out ?_;dsimp only[Value.cells];try simp only[World.size_alloc]))
 go_loopg [10] 16 (fun g s10 wr=>∃k:Nat,k≤16∧g=16-k∧s10=.int .i64 k∧wr.heap[w.heap.size]?=some (.cells B 335 (0,0))∧wr.heap[w.heap.size+1+1]?=some (.cells (B6 (EI (Sha.w16 b k))) 361 (0,0)) ∧
  (∃c,wr.heap[w.heap.size+1]?=some (.cells c 361 (0,0))∧c.size=64)∧Ch (fun _=>False) w wr)
 case atStart =>
  have hmz:B6 (EI (Sha.w16 b 0))=Z:=by rw[←HZ.out];exact QG
  refine⟨0,Nat.zero_le _,rfl,rfl,?_,?_,⟨Z,?_,by rw[←HZ.out];simp[Fy]⟩,?_⟩
  · refine AQ (AQ ?_ _) _
    have:=heap_alloc_new w (.cells B 335);exact this
  · rw[hmz]
    have:=heap_alloc_new ((w.alloc (.cells B 335)).alloc (.cells Z 361)) (.cells Z 361);simpa using this
  · refine AQ ?_ _
    have:=heap_alloc_new (w.alloc (.cells B 335)) (.cells Z 361);simpa using this
  (repeat (first|with_reducible exact Ch.refl _ _|with_reducible exact Ch.refl _ _|with_reducible refine Ch.drew ?_|with_reducible refine Ch.drewN ?_ _|with_reducible refine Ch.alloc ?_ _|with_reducible refine Ch.setCell ?_ (by first|exact .inr (by simp<;>omega)|(left;simp;done)) _|with_reducible refine Ch.setRow ?_ (by first|exact .inr (by simp<;>omega)|(left;simp;done)) _))
 obtain⟨k,hk,rfl,rfl,hrb,hrw,hr2,hch⟩:=hrel;by_cases hkl:k<16
 · have hbl:∀j,j<64→B[j]?=some (bv (b.getD j 0)):=fun j hj=>by rw[←HB.out];exact Dd (by rw[HBL.out];exact hj)
   have c0:=AH hrb (hbl (4*k) (by omega));have c1:=AH hrb (hbl (4*k+1) (by omega));have c2:=AH hrb (hbl (4*k+2) (by omega));have c3:=AH hrb (hbl (4*k+3) (by omega));have hwd:Sha.be (b.getD (4*k) 0) (b.getD (4*k+1) 0) (b.getD (4*k+2) 0) (b.getD (4*k+3) 0)=Sha.word b k:=rfl;generalize b.getD (4*k) 0=x0 at c0 hwd;generalize b.getD (4*k+1) 0=x1 at c1 hwd;generalize b.getD (4*k+2) 0=x2 at c2 hwd;generalize b.getD (4*k+3) 0=x3 at c3 hwd;have HWD:=Lib.hid hwd;obtain⟨old,hold⟩:=KT (l:=Sha.w16 b k) (by rw[Sha.Ef];omega) (i:=k) (by omega);have c4:=AH hrw hold;have f4:=Ai hrw k;have l4:=Ad hrw;have hk15:k≤15:=by omega
   have hk15':(k:Int)≤15:=by omega
   have HRB:=Lib.hid hrb;have HRW:=Lib.hid hrw;have HR2:=Lib.hid hr2;have HCH:=Lib.hid hch;clear hrb hrw hr2 hch hbl hold hwd;have p1:0≤4*(k:Int):=by omega
   have p2:4*(k:Int)<64:=by omega
   have n1:0≤4*(k:Int)+1:=by omega
   have n2:0≤4*(k:Int)+2:=by omega
   have n3:0≤4*(k:Int)+3:=by omega
   have p3:4*(k:Int)+1<64:=by omega
   have p4:4*(k:Int)+2<64:=by omega
   have p5:4*(k:Int)+3<64:=by omega
   have q1:(4*(k:Int)).toNat=4*k:=by omega
   have q2:(4*(k:Int)+1).toNat=4*k+1:=by omega
   have q3:(4*(k:Int)+2).toNat=4*k+2:=by omega
   have q4:(4*(k:Int)+3).toNat=4*k+3:=by omega
   have w1:IntKind.i64.wrap (4*(k:Int))=4*k:=IntWalk.i64_in _ (by omega);have w2:IntKind.i64.wrap (4*(k:Int)+1)=4*k+1:=IntWalk.i64_in _ (by omega);have w3:IntKind.i64.wrap (4*(k:Int)+2)=4*k+2:=IntWalk.i64_in _ (by omega);have w4:IntKind.i64.wrap (4*(k:Int)+3)=4*k+3:=IntWalk.i64_in _ (by omega);go_wp2;go_still_tail 30,(by kernel_rfl)
   show wpList _ _ _ _ _ wr.drew
   go_wp2;go_roundg (16-(k+1))
   case measure=>omega
   clear q1 q2 q3 q4 w1 w2 w3 w4;rw[V0 x0 x1 x2 x3,HWD.out];have hwl:=HCH.out.size;obtain⟨c,hc1,hc2⟩:=HR2.out;refine⟨k+1,by omega,rfl,by go_num,?_,?_,⟨c,?_,hc2⟩,?_⟩
   · (repeat (first|with_reducible exact HRB.out|with_reducible refine AM ?_|with_reducible refine Bp ?_ _|with_reducible refine AQ ?_ _|with_reducible refine row_setRow ?_ (by simp<;>omega) _|with_reducible refine Ak ?_ (by simp<;>omega) _))
   · refine AM ?_
     have:=AV HRW.out k (wv (Sha.word b k));rw[this,Sha.TF, ←Ll (by rw[Sha.Ef];omega),Sha.Ef]
   · (repeat (first|with_reducible exact hc1|with_reducible refine AM ?_|with_reducible refine Bp ?_ _|with_reducible refine AQ ?_ _|with_reducible refine row_setRow ?_ (by simp<;>omega) _|with_reducible refine Ak ?_ (by simp<;>omega) _))
   (repeat (first|with_reducible exact HCH.out|with_reducible exact Ch.refl _ _|with_reducible refine Ch.drew ?_|with_reducible refine Ch.drewN ?_ _|with_reducible refine Ch.alloc ?_ _|with_reducible refine Ch.setCell ?_ (by first|exact .inr (by simp<;>omega)|(left;simp;done)) _|with_reducible refine Ch.setRow ?_ (by first|exact .inr (by simp<;>omega)|(left;simp;done)) _))
 obtain rfl:k=16:=by omega
 obtain⟨wo,hwo⟩:∃wo:World,wo=wr:=⟨_,rfl⟩
 subst hwo;have hkl':¬((16:Nat):Int)<16:=by omega
 obtain⟨cr,hcr,hcs⟩:=hr2;have HRW:=Lib.hid hrw;have HCR:=(hIq hcr hcs)
 have HCH:=Lib.hid hch;clear hrb hrw hcr hcs hch hkl;go_wp2
 go_loopg [5] 48 (fun g s5 wr=>∃n:Nat,n≤48∧g=48-n∧s5=.int .i64 (16+n)∧wr.heap[w.heap.size+1+1]?=some (.cells (B6 (EI (Sha.ext (Sha.w16 b 16) n))) 361 (0,0)) ∧
  wr.heap[w.heap.size+1]?=some (.cells cr 361 (0,0))∧Ch (fun _=>False) w wr)
 case atStart=>exact⟨0,Nat.zero_le _,rfl,rfl,HRW.out,HCR.out.1,HCH.out⟩
 obtain⟨n,hn,rfl,rfl,hrw,hr2,hch⟩:=hrel;by_cases hnl:n<48
 · have hl:(Sha.ext (Sha.w16 b 16) n).length=16+n:=by rw[Sha.Hm,Sha.Ef]
   have hg:∀d:Nat,0<d→d≤16→wr.cell? ⟨w.heap.size+1+1,16+n-d,none⟩=some (wv ((Sha.ext (Sha.w16 b 16) n).getD ((Sha.ext (Sha.w16 b 16) n).length-d) 0)):=fun d h0 h1=>by
    have:=AH hrw (QT (l:=Sha.ext (Sha.w16 b 16) n) (i:=(Sha.ext (Sha.w16 b 16) n).length-d) (by omega));rw[hl] at this ⊢;exact this
   have c2:=hg 2 (by omega) (by omega);have c7:=hg 7 (by omega) (by omega);have c15:=hg 15 (by omega) (by omega);have c16:=hg 16 (by omega) (by omega);rw[show 16+n-16=n by omega] at c16;obtain⟨L,hL⟩:∃L,L=Sha.ext (Sha.w16 b 16) n:=⟨_,rfl⟩
   have hne:Sha.next L=((Sha.T4 (L.getD (L.length-2) 0)+L.getD (L.length-7) 0)+Sha.Ua (L.getD (L.length-15) 0))+L.getD (L.length-16) 0:=rfl
   have hex:Sha.ext (Sha.w16 b 16) (n+1)=L ++ [Sha.next L]:=by rw[hL];rfl
   rw[←hL] at c2 c7 c15 c16 hl hrw;generalize L.getD (L.length-2) 0=x2 at c2 hne;generalize L.getD (L.length-7) 0=x7 at c7 hne;generalize L.getD (L.length-15) 0=x15 at c15 hne;generalize L.getD (L.length-16) 0=x16 at c16 hne;obtain⟨old,hold⟩:=KT (l:=L) (by omega) (i:=16+n) (by omega);have co:=AH hrw hold;have cf:=Ai hrw (16+n);have cl:=Ad hrw;have hn1:(n:Int)≤47:=by omega
   have hn2:n≤47:=by omega
   have HNE:=Lib.hid hne;have HEX:=Lib.hid hex;have HL:=Lib.hid hl;have HRW2:=Lib.hid hrw;have HR2:=Lib.hid hr2;have HC2:=Lib.hid hch;clear hg hne hex hold hl hrw hr2 hch hL;have n2:0≤16+(n:Int)-2:=by omega
   have m2:2≤16+(n:Int):=by omega
   have p2:16+(n:Int)-2<64:=by omega
   have q2:(16+(n:Int)-2).toNat=16+n-2:=by omega
   have w2:IntKind.i64.wrap (16+(n:Int)-2)=16+n-2:=IntWalk.i64_in _ (by omega);have n7:0≤16+(n:Int)-7:=by omega
   have m7:7≤16+(n:Int):=by omega
   have p7:16+(n:Int)-7<64:=by omega
   have q7:(16+(n:Int)-7).toNat=16+n-7:=by omega
   have w7:IntKind.i64.wrap (16+(n:Int)-7)=16+n-7:=IntWalk.i64_in _ (by omega);have n15:0≤16+(n:Int)-15:=by omega
   have m15:15≤16+(n:Int):=by omega
   have p15:16+(n:Int)-15<64:=by omega
   have q15:(16+(n:Int)-15).toNat=16+n-15:=by omega
   have w15:IntKind.i64.wrap (16+(n:Int)-15)=16+n-15:=IntWalk.i64_in _ (by omega);have n16:0≤16+(n:Int)-16:=by omega
   have m16:16≤16+(n:Int):=by omega
   have p16:16+(n:Int)-16<64:=by omega
   have q16:(16+(n:Int)-16).toNat=n:=by omega
   have w16:IntKind.i64.wrap (16+(n:Int)-16)=16+n-16:=IntWalk.i64_in _ (by omega);have n0:0≤16+(n:Int):=by omega
   have q0:(16+(n:Int)).toNat=16+n:=by omega
   have s1:=TS x2;have s0:=Rv x15;generalize Sha.T4 x2=y1 at s1 HNE;generalize Sha.Ua x15=y0 at s0 HNE;obtain⟨a1,a1'⟩:=TN y1 x7;generalize y1+x7=z1 at a1 a1' HNE;obtain⟨a2,a2'⟩:=TN z1 y0;generalize z1+y0=z2 at a2 a2' HNE;obtain⟨a3,a3'⟩:=TN z2 x16;generalize z2+x16=z3 at a3 a3' HNE;go_wp2;go_quiet (fail);go_wp2_with fail;refine(UL x2 _).mono ?_;rintro e w1 ⟨rfl,rfl⟩;go_wp2_with fail;refine(T1 x2 _).mono ?_;rintro e w1 ⟨rfl,rfl⟩;go_wp2_with fail;refine(V7 x15 _).mono ?_;rintro e w1 ⟨rfl,rfl⟩;go_wp2_with fail;refine(T3 x15 _).mono ?_;rintro e w1 ⟨rfl,rfl⟩;go_wp2;obtain⟨wq,hwq⟩:∃wq,wq=wr.drewN nq:=⟨_,rfl⟩
   rw[←hwq];have e7:wq.cell? ⟨w.heap.size+1+1,16+n-7,none⟩=some (wv x7):=by subst hwq;exact c7
   have e16:wq.cell? ⟨w.heap.size+1+1,n,none⟩=some (wv x16):=by subst hwq;exact c16
   have eo:wq.cell? ⟨w.heap.size+1+1,16+n,none⟩=some old:=by subst hwq;exact co
   have ef:wq.frozen? ⟨w.heap.size+1+1,16+n,none⟩=false:=by subst hwq;exact cf
   have el:w.heap.size+1+1<wq.heap.size:=by subst hwq;exact cl
   have HWQ:=Lib.hid hwq;clear hwq c2 c7 c15 c16 co cf cl;go_still_tail 14,(by kernel_rfl)
   show wpList _ _ _ _ _ wq.drew
   go_wp2;go_roundg (48-(n+1))
   case measure=>omega
   clear n2 m2 p2 q2 w2 n7 m7 p7 q7 w7 n15 m15 p15 q15 w15 n16 m16 p16 q16 w16 q0 s1 s0 a1 a1' a2 a2' a3 a3';have hws:=HC2.out.size;have hq:Ch (fun _=>False) w wq:=by rw[HWQ.out];exact HC2.out.drewN _
   have hr:wq.heap[w.heap.size+1+1]?=some (.cells (B6 (EI L)) 361 (0,0)):=by rw[HWQ.out];exact HRW2.out
   have hr2:wq.heap[w.heap.size+1]?=some (.cells cr 361 (0,0)):=by rw[HWQ.out];exact HR2.out
   refine⟨n+1,by omega,rfl,by go_num,?_,?_,?_⟩
   · refine AM ?_
     have:=AV hr (16+n) (wv z3);rw[this,HEX.out,HNE.out, ←HL.out,Ll (by rw[HL.out];omega)]
   · (repeat (first|with_reducible exact hr2|with_reducible refine AM ?_|with_reducible refine Bp ?_ _|with_reducible refine AQ ?_ _|with_reducible refine row_setRow ?_ (by simp<;>omega) _|with_reducible refine Ak ?_ (by simp<;>omega) _))
   (repeat (first|with_reducible exact hq|with_reducible exact Ch.refl _ _|with_reducible refine Ch.drew ?_|with_reducible refine Ch.drewN ?_ _|with_reducible refine Ch.alloc ?_ _|with_reducible refine Ch.setCell ?_ (by first|exact .inr (by simp<;>omega)|(left;simp;done)) _|with_reducible refine Ch.setRow ?_ (by first|exact .inr (by simp<;>omega)|(left;simp;done)) _))
 have h48:n=48:=by omega
 have hnl':decide (16+(n:Int)<64)=false:=by simp;omega
 rw[h48] at hrw;have hsc:Sha.ext (Sha.w16 b 16) 48=Sha.sched b:=rfl;have hsl:=Sha.FP b;rw[hsc,OF hsl] at hrw;obtain⟨S,hS⟩:∃S,B6 (Sha.sched b)=S:=⟨_,rfl⟩
 have hSs:S.size=64:=by rw[←hS,Cy,hsl]
 have hS1:=EX (Sha.sched b);rw[hS] at hrw hS1;have HS0:=Lib.hid hS;have HS1:=Lib.hid hS1;have HSS:=Lib.hid hSs;have HRS:=Lib.hid hrw;have HR2:=Lib.hid hr2;have HC2:=Lib.hid hch;clear hS hSs hS1 hrw hr2 hch hsc hsl hnl h48
 go_wp2_with (first
  | ((with_reducible show zOq (.load 361 _));refine AJ rfl 361 _ rfl (w.heap.size+1+1) 0 rfl HRS.out Tryz.underlying361 rfl He (by rw[HSS.out];omega) S (by simp[←HSS.out]) ?_)
  | ((with_reducible show zOq (.store 361 _ _));refine AI rfl 361 _ _ rfl (w.heap.size+1) 0 S rfl rfl HR2.out (by rw[He,HSS.out]) (by rw[HSS.out,HCR.out.2];omega) HS1.out S (by rw[AT _ _ (by rw[Array.length_toList,Array.length_toList,HSS.out,HCR.out.2])]) ?_))
 have hws:=HC2.out.size;exact Af (p:=2) rfl rfl (AK HR2.out _) Tryz.underlying361 rfl (by rw[He,HSS.out]) rfl ⟨by rw[HS0.out],HC2.out.setRow (.inr (by omega)) _⟩
def wx (x y:UInt32):UInt32:=x ^^^ y
def wn (x y:UInt32):UInt32:=x &&& y
def wa (x y:UInt32):UInt32:=x+y
def wc (x:UInt32):UInt32 := ~~~ x
@[go_sem] theorem Xo (x y:UInt32):bits .xor .u32 (x.toNat:Int) (y.toNat:Int)=((wx x y).toNat:Int):=K8 x y
@[go_sem] theorem Xb (x y:UInt32):bits .and .u32 (x.toNat:Int) (y.toNat:Int)=((wn x y).toNat:Int):=Ww x y
@[go_sem] theorem Xl (x y:UInt32):IntKind.u32.wrap ((x.toNat:Int)+(y.toNat:Int))=((wa x y).toNat:Int):=(TN x y).1
@[go_sem] theorem XW (x y:UInt32):((x.toNat:Int)+(y.toNat:Int)) % (4294967296:Int)=((wa x y).toNat:Int):=(TN x y).2
@[go_sem] theorem Xd (x:UInt32):bits .xor .u32 (4294967295:Int) (x.toNat:Int)=((wc x).toNat:Int):=VT x
@[go_sem] theorem XT (x:UInt32):bits .xor .u32 IntKind.u32.max (x.toNat:Int)=((wc x).toNat:Int):=VT x
theorem XK (a b c d e:UInt32):((a.toNat:Int)+(b.toNat:Int)+(c.toNat:Int)+(d.toNat:Int)+(e.toNat:Int)) % (4294967296:Int)=((wa (wa (wa (wa a b) c) d) e).toNat:Int):=by
 simp only[wa,UInt32.toNat_add];omega
theorem Wx (a b c d e:UInt32):((e.toNat:Int)+((a.toNat:Int)+(b.toNat:Int)+(c.toNat:Int)+(d.toNat:Int))) % (4294967296:Int)=((wa e (wa (wa (wa a b) c) d)).toNat:Int):=by
 simp only[wa,UInt32.toNat_add];omega
def added (h v:List UInt32) (i:Nat):List UInt32:=(List.zipWith (· + ·) h v).take i++h.drop i
theorem Lw (h v:List UInt32) (i:Nat) (hv:v.length=h.length) (hi:i≤h.length):(added h v i).length=h.length:=by simp[added];omega
theorem Qo (h v:List UInt32) (i:Nat) (hv:v.length=h.length) (hi:i<h.length):(added h v i).getD i 0=h.getD i 0:=by
 have hl:((List.zipWith (· + ·) h v).take i).length=i:=by simp;omega
 simp only[List.getD_eq_getElem?_getD,added];rw[List.getElem?_append_right (by omega),hl,List.getElem?_drop];simp
theorem Oy (h v:List UInt32) (i:Nat) (hv:v.length=h.length) (hi:i<h.length):added h v (i+1)=(added h v i).set i (h.getD i 0+v.getD i 0):=by
 have hl:((List.zipWith (· + ·) h v).take i).length=i:=by simp;omega
 unfold added;rw[List.set_append_right _ _ (by omega),hl,Nat.sub_self,List.take_add_one,List.drop_eq_getElem_cons hi]
 have hz:(List.zipWith (· + ·) h v)[i]?=some (h.getD i 0+v.getD i 0):=by
  simp[List.getElem?_zipWith,hi,show i<v.length by omega]
 rw[hz,List.set_cons_zero,Option.toList_some,List.append_assoc,List.singleton_append]
theorem Ql (h v:List UInt32) (hv:v.length=h.length):added h v h.length=List.zipWith (· + ·) h v:=by
 unfold added;rw[List.drop_eq_nil_of_le (Nat.le_refl _),List.append_nil,List.take_of_length_le (by simp;omega)]
theorem Tf (l:List UInt32) (i:Nat) (x:UInt32):(B6 l).setIfInBounds i (wv x)=B6 (l.set i x):=by
 apply Array.ext';simp[B6,List.map_set]
theorem Bu {w wq:World} {n:Nat} (h:wq=w.drewN n) {p:Addr} {v:Value} (hc:w.cell? p=some v):wq.cell? p=some v:=by subst h;exact hc
theorem Ic:(Tryz.prog.info? 333).map (·.size)=some 8:=by kernel_rfl
theorem Pb:(Tryz.prog.info? 335).map (·.size)=some 64:=by kernel_rfl
theorem Wb:(Tryz.prog.info? 333).bind (·.zero)=some (.agg (Fy 8)):=by kernel_rfl
theorem CV {l:List UInt32} {i:Nat} (h:i<l.length):(B6 l)[i]?=some (wv (l.getD i 0)):=by
 simp[B6,h]
theorem LG (x:UInt32) (n:Int) (w:World) (h:n=2∨n=6∨n=11∨n=13∨n=22∨n=25):Calls Tryz.prog 275 #[wv x,.int .i64 n] w fun e w'=>e=.returned (wv (Cg x n.toNat))∧w'=w:=by
 rcases h with rfl|rfl|rfl|rfl|rfl|rfl
 · exact(V1 x w).mono fun _ _ ⟨h,h'⟩=>⟨h,h'.symm⟩
 · exact(Vd x w).mono fun _ _ ⟨h,h'⟩=>⟨h,h'.symm⟩
 · exact(U1 x w).mono fun _ _ ⟨h,h'⟩=>⟨h,h'.symm⟩
 · exact(UN x w).mono fun _ _ ⟨h,h'⟩=>⟨h,h'.symm⟩
 · exact(UK x w).mono fun _ _ ⟨h,h'⟩=>⟨h,h'.symm⟩
 exact(UZ x w).mono fun _ _ ⟨h,h'⟩=>⟨h,h'.symm⟩
theorem U2 (h:List UInt32) (hh:h.length=8) (b:List UInt8) (hb:b.length=64) (w:World) :
 Calls Tryz.prog 247 #[.agg (B6 h),.agg (AS b)] w fun e w'=>e=.returned (.agg (B6 (Sha.step h b)))∧Ch (fun _=>False) w w':=by
 have HSC:=Lib.hid (Mk b hb);have HKC:=Lib.hid MZ;obtain⟨Z,hZ⟩:∃Z,Fy 64=Z:=⟨_,rfl⟩
 have z0:=OK;have hZs:Z.size=64:=by rw[←hZ];simp[Fy]
 rw[hZ] at z0;obtain⟨Y,hY⟩:∃Y,Fy 8=Y:=⟨_,rfl⟩
 have y0:=Wb;have hYs:Y.size=8:=by rw[←hY];simp[Fy]
 rw[hY] at y0;obtain⟨B,hB⟩:∃B,AS b=B:=⟨_,rfl⟩
 have hBs:B.size=64:=by rw[←hB,AU,hb]
 obtain⟨H,hH⟩:∃H,B6 h=H:=⟨_,rfl⟩
 have hHs:H.size=8:=by rw[←hH,Cy,hh]
 obtain⟨S,hS⟩:∃S,B6 (Sha.sched b)=S:=⟨_,rfl⟩
 have hSs:S.size=64:=by rw[←hS,Cy,Sha.FP]
 have hS1:=EX (Sha.sched b);obtain⟨K,hK⟩:∃K,B6 Sha.kc=K:=⟨_,rfl⟩
 have hKs:K.size=64:=by rw[←hK,Cy];rfl
 have hK1:=EX Sha.kc;have hH1:=EX h;rw[hB,hS] at HSC;rw[hK] at HKC;rw[hB,hH];rw[hS] at hS1;rw[hK] at hK1;rw[hH] at hH1;have Z0:=(hIq z0 hZs)
 have Y0:=(hIq y0 hYs)
 have B0:=(hIq hB hBs)
 have H0:=(hIq hH (aIq hHs hH1))
 have S0:=(hIq hS (aIq hSs hS1))
 have K0:=(hIq hK (aIq hKs hK1))
 have HH:=Lib.hid hh;clear hZ z0 hZs hY y0 hYs hB hBs hH hHs hH1 hS hSs hS1 hK hKs hK1 hh hb;go_enter Tryz.func247,Tryz.ntmps247
 go_wp2_with (first
  | ((with_reducible show zOq (.alloc 333));refine AO rfl 333 rfl (.agg Y) Y0.out.1 ?_;dsimp only[Value.cells];try simp only[World.size_alloc])
  | ((with_reducible show zOq (.load 335 _));refine AJ rfl 335 _ rfl (w.heap.size+1) 0 rfl (AQ (by have:=heap_alloc_new (w.alloc (.cells H 333)) (.cells B 335);simpa using this) _) Tryz.underlying335 rfl Pb (by rw[B0.out.2];omega) B (by simp[←B0.out.2]) ?_))
 refine(HSC.out _).mono ?_;rintro e w1 ⟨rfl,hc1⟩;go_wp2_with fail;refine(HKC.out _).mono ?_;rintro e w2 ⟨rfl,hc2⟩;have s1:=hc1.size;have s2:=hc2.size;simp only[World.size_alloc] at s1
 have e0:w2.heap[w.heap.size]?=some (.cells H 333 (0,0)):=by
  refine hc2.row (hc1.row ?_ id) id
  (repeat (first|with_reducible exact heap_alloc_new _ _|with_reducible refine AM ?_|with_reducible refine Bp ?_ _|with_reducible refine AQ ?_ _|with_reducible refine row_setRow ?_ (by simp<;>omega) _|with_reducible refine Ak ?_ (by simp<;>omega) _))
 have e2:w2.heap[w.heap.size+1+1]?=some (.cells Y 333 (0,0)):=by
  refine hc2.row (hc1.row ?_ id) id;have:=heap_alloc_new ((w.alloc (.cells H 333)).alloc (.cells B 335)) (.cells Y 333);simpa using this
 have hw2:Ch (fun _=>False) w w2:=((((Ch.refl _ _).alloc _).alloc _).alloc _ |>.trans hc1 (fun _=>fEq)).trans hc2 (fun _=>fEq);have g1:w.heap.size<w2.heap.size:=by omega
 have g2:w.heap.size+1+1<w2.heap.size:=by omega
 have E0:=Lib.hid e0;have E2:=Lib.hid e2;have HW2:=Lib.hid hw2;clear hc1 hc2 e0 e2 hw2 s1 s2
 go_wp2_with (first
  | ((with_reducible show zOq (.alloc 333));refine AO rfl 333 rfl (.agg Y) Y0.out.1 ?_;dsimp only[Value.cells];try simp only[World.size_alloc,size_setRow])
  | ((with_reducible show zOq (.alloc 361));refine AO rfl 361 rfl (.agg Z) Z0.out.1 ?_;dsimp only[Value.cells];try simp only[World.size_alloc])
  | ((with_reducible show zOq (.store 361 _ _));refine AI rfl 361 _ _ rfl w2.heap.size 0 S rfl rfl (AQ (heap_alloc_new _ _) _) (by rw[He,S0.out.2.1]) (by rw[S0.out.2.1,Z0.out.2];omega) S0.out.2.2 S (by rw[AT _ _ (by rw[Array.length_toList,Array.length_toList,S0.out.2.1,Z0.out.2])]) ?_)
  | ((with_reducible show zOq (.store 361 _ (.tmp 16)));go_must (refine AI rfl 361 _ _ rfl (w2.heap.size+1) 0 K rfl rfl (by rw[CI,BG]<;>first|(simp;done)|omega) (by rw[He,K0.out.2.1]) (by rw[K0.out.2.1,Z0.out.2];omega) K0.out.2.2 K (by rw[AT _ _ (by rw[Array.length_toList,Array.length_toList,K0.out.2.1,Z0.out.2])]) ?_))
  | ((with_reducible show zOq (.load 333 _));refine AJ rfl 333 _ rfl w.heap.size 0 rfl (row_setRow (row_setRow (AQ (AQ E0.out _) _) (by omega) _) (by omega) _) Tryz.underlying333 rfl Ic (by rw[H0.out.2.1];omega) H (by simp[←H0.out.2.1]) ?_)
  | ((with_reducible show zOq (.store 333 _ _));refine AI rfl 333 _ _ rfl (w2.heap.size+1+1) 0 H rfl rfl (by rw[BG];simp) (by rw[Ic,H0.out.2.1]) (by rw[H0.out.2.1,Y0.out.2];omega) H0.out.2.2 H (by rw[AT _ _ (by rw[Array.length_toList,Array.length_toList,H0.out.2.1,Y0.out.2])]) ?_))
 go_loopg [18] 64 (fun g s18 wr=>∃k:Nat,k≤64∧g=64-k∧s18=.int .i64 k∧wr.heap[w2.heap.size+1+1]?=some (.cells (B6 (Sha.rounds (Sha.sched b) h k)) 333 (0,0)) ∧
  wr.heap[w2.heap.size]?=some (.cells S 361 (0,0))∧wr.heap[w2.heap.size+1]?=some (.cells K 361 (0,0))∧wr.heap[w.heap.size]?=some (.cells H 333 (0,0)) ∧
  wr.heap[w.heap.size+1+1]?=some (.cells Y 333 (0,0))∧Ch (fun _=>False) w wr)
 case atStart =>
  have hws:=HW2.out.size;refine⟨0,Nat.zero_le _,rfl,rfl,?_,?_,?_,?_,?_,?_⟩
  · show _=some (Obj.cells (B6 h) _ _)
    rw[Co,BG]<;>simp[H0.out.1,putRow]
  · rw[CI,Ds,CI,Co,Ds,BG]<;>first|(simp[putRow];done)|(simp;omega)
  · rw[CI,Ds,Co,CI,BG]<;>first|(simp[putRow];done)|(simp;omega)
  · (repeat (first|with_reducible exact E0.out|with_reducible refine AM ?_|with_reducible refine Bp ?_ _|with_reducible refine AQ ?_ _|with_reducible refine row_setRow ?_ (by simp<;>omega) _|with_reducible refine Ak ?_ (by simp<;>omega) _))
  · (repeat (first|with_reducible exact E2.out|with_reducible refine AM ?_|with_reducible refine Bp ?_ _|with_reducible refine AQ ?_ _|with_reducible refine row_setRow ?_ (by simp<;>omega) _|with_reducible refine Ak ?_ (by simp<;>omega) _))
  exact(((((HW2.out.alloc _).alloc _).setRow (.inr (by omega)) _).setRow (.inr (by omega)) _).alloc _).setRow (.inr (by omega)) _
 obtain⟨k,hk,rfl,rfl,rv,rS,rK,rH,rY,hch⟩:=hrel;by_cases hkl:k<64
 · have hVl:=Sha.E3 (Sha.sched b) h HH.out k
   have hgs:=CV (l:=Sha.sched b) (i:=k) (by rw[Sha.FP];exact hkl);have hgk:=CV (l:=Sha.kc) (i:=k) (by show k<64;exact hkl);rw[S0.out.1] at hgs;rw[K0.out.1] at hgk;have hnx:Sha.rounds (Sha.sched b) h (k+1)=Sha.round (Sha.kc.getD k 0) ((Sha.sched b).getD k 0) (Sha.rounds (Sha.sched b) h k):=rfl;obtain⟨V,hV⟩:∃V,V=Sha.rounds (Sha.sched b) h k:=⟨_,rfl⟩
   rw[←hV] at hVl rv hnx;have hrd:Sha.round (Sha.kc.getD k 0) ((Sha.sched b).getD k 0) V=Sha.round (Sha.kc.getD k 0) ((Sha.sched b).getD k 0) [V.getD 0 0,V.getD 1 0,V.getD 2 0,V.getD 3 0,V.getD 4 0,V.getD 5 0,V.getD 6 0,V.getD 7 0]:=rfl;have c0:=AH rv (CV (l:=V) (i:=0) (by omega));have c1:=AH rv (CV (l:=V) (i:=1) (by omega));have c2:=AH rv (CV (l:=V) (i:=2) (by omega));have c3:=AH rv (CV (l:=V) (i:=3) (by omega));have c4:=AH rv (CV (l:=V) (i:=4) (by omega));have c5:=AH rv (CV (l:=V) (i:=5) (by omega));have c6:=AH rv (CV (l:=V) (i:=6) (by omega));have c7:=AH rv (CV (l:=V) (i:=7) (by omega));have cs:=AH rS hgs;have ck:=AH rK hgk;generalize V.getD 0 0=v0 at c0 hrd;generalize V.getD 1 0=v1 at c1 hrd;generalize V.getD 2 0=v2 at c2 hrd;generalize V.getD 3 0=v3 at c3 hrd;generalize V.getD 4 0=v4 at c4 hrd;generalize V.getD 5 0=v5 at c5 hrd;generalize V.getD 6 0=v6 at c6 hrd;generalize V.getD 7 0=v7 at c7 hrd;generalize (Sha.sched b).getD k 0=xs at cs hrd hnx;generalize Sha.kc.getD k 0=xk at ck hrd hnx;have hk1:(k:Int)≤63:=by omega
   have hk2:k≤63:=by omega
   have hk3:(k:Int)<64:=by omega
   have HN:=Lib.hid (hnx.trans hrd);have HVL:=Lib.hid hVl;have RV:=Lib.hid rv;have RS:=Lib.hid rS;have RK:=Lib.hid rK;have RH:=Lib.hid rH;have RY:=Lib.hid rY;have HC:=Lib.hid hch;clear hnx hrd hVl rv rS rK rH rY hch hV hgs hgk;go_wp2;go_quiet (fail);obtain⟨wq,hwq⟩:∃wq,wq=wr.drewN nq:=⟨_,rfl⟩
   rw[←hwq];replace c0:=Bu hwq c0;replace c1:=Bu hwq c1;replace c2:=Bu hwq c2;replace c3:=Bu hwq c3;replace c4:=Bu hwq c4;replace c5:=Bu hwq c5;replace c6:=Bu hwq c6;replace c7:=Bu hwq c7;replace cs:=Bu hwq cs;replace ck:=Bu hwq ck;have HWwq:=Lib.hid hwq;clear hwq;go_wp2;go_quiet ((go_at_call 275;exact Calls.quiet_of_same (LG _ _ _ (by omega))));obtain⟨wp,hwp⟩:∃wp,wp=wq.drewN nq:=⟨_,rfl⟩
   rw[←hwp];replace c0:=Bu hwp c0;replace c1:=Bu hwp c1;replace c2:=Bu hwp c2;replace c3:=Bu hwp c3;replace c4:=Bu hwp c4;replace c5:=Bu hwp c5;replace c6:=Bu hwp c6;replace c7:=Bu hwp c7;have HWwp:=Lib.hid hwp;clear hwp;go_wp2;go_quiet ((go_at_call 275;exact Calls.quiet_of_same (LG _ _ _ (by omega))));obtain⟨wz,hwz⟩:∃wz,wz=wp.drewN nq:=⟨_,rfl⟩
   rw[←hwz];replace c0:=Bu hwz c0;replace c1:=Bu hwz c1;replace c2:=Bu hwz c2;replace c3:=Bu hwz c3;replace c4:=Bu hwz c4;replace c5:=Bu hwz c5;replace c6:=Bu hwz c6;replace c7:=Bu hwz c7;have HWwz:=Lib.hid hwz;clear hwz;have RVZ:Hid (wz.heap[w2.heap.size+1+1]?=some (.cells (B6 V) 333 (0,0))):=by show _=_;rw[HWwz.out,HWwp.out,HWwq.out];exact RV.out
   have HCZ:Hid (Ch (fun _=>False) w wz):=by show Ch _ _ _;rw[HWwz.out,HWwp.out,HWwq.out];exact((HC.out.drewN _).drewN _).drewN _
   have HVW:Hid ((B6 V).size=8):=by show _=_;rw[Cy,HVL.out]
   go_wp2_with (first
    | ((with_reducible show zOq (.store 333 _ _));refine AI rfl 333 _ _ rfl (w2.heap.size+1+1) 0 _ rfl rfl RVZ.out (by rw[Ic];rfl) (by rw[HVW.out];exact Nat.le_refl _) (by intro v hv;simp at hv;rcases hv with rfl|rfl|rfl|rfl|rfl|rfl|rfl|rfl<;>rfl) _ (by rw[AT _ _ (by rw[Array.length_toList,Array.length_toList,HVW.out];rfl)]) ?_))
   go_roundg (64-(k+1))
   case measure=>omega
   refine⟨k+1,by omega,rfl,by go_num,?_,?_,?_,?_,?_,HCZ.out.setRow (.inr (by have:=HW2.out.size;omega)) _⟩
   · rw[AK RVZ.out,HN.out,XK,Wx]
     rfl
   · refine row_setRow ?_ (by omega) _
     rw[HWwz.out,HWwp.out,HWwq.out];exact RS.out
   · refine row_setRow ?_ (by omega) _
     rw[HWwz.out,HWwp.out,HWwq.out];exact RK.out
   · refine row_setRow ?_ (by omega) _
     rw[HWwz.out,HWwp.out,HWwq.out];exact RH.out
   refine row_setRow ?_ (by omega) _;rw[HWwz.out,HWwp.out,HWwq.out];exact RY.out
 have h64:k=64:=by omega
 rw[h64] at rv;have hd:decide ((k:Int)<64)=false:=by simp;omega
 have hVl:=Sha.E3 (Sha.sched b) h HH.out 64;have hst:Sha.step h b=List.zipWith (· + ·) h (Sha.rounds (Sha.sched b) h 64):=rfl;obtain⟨V,hV⟩:∃V,V=Sha.rounds (Sha.sched b) h 64:=⟨_,rfl⟩
 rw[←hV] at rv hVl hst;rw[←H0.out.1] at rH;obtain⟨wo,hwo⟩:∃wo:World,wo=wr:=⟨_,rfl⟩
 subst hwo;have HST:=Lib.hid hst;have HVL:=Lib.hid hVl;have RV:=Lib.hid rv;have RH:=Lib.hid rH;have RY:=Lib.hid rY;have HC:=Lib.hid hch;clear hst hVl rv rS rK rH rY hch hV h64 hkl;go_wp2
 go_loopg [98] 8 (fun g s98 wr=>∃i:Nat,i≤8∧g=8-i∧s98=.int .i64 i∧wr.heap[w.heap.size]?=some (.cells (B6 (added h V i)) 333 (0,0)) ∧
  wr.heap[w2.heap.size+1+1]?=some (.cells (B6 V) 333 (0,0))∧wr.heap[w.heap.size+1+1]?=some (.cells Y 333 (0,0))∧Ch (fun _=>False) w wr)
 case atStart=>exact⟨0,Nat.zero_le _,rfl,rfl,RH.out,RV.out,RY.out,HC.out⟩
 obtain⟨i,hi,rfl,rfl,rh,rv,rY,hch⟩:=hrel;by_cases hil:i<8
 · have hal:=Lw h V i (by rw[HVL.out,HH.out]) (by rw[HH.out];omega)
   have c1:=AH rh (CV (l:=added h V i) (i:=i) (by rw[hal,HH.out];exact hil));have c2:=AH rv (CV (l:=V) (i:=i) (by rw[HVL.out];exact hil));rw[Qo h V i (by rw[HVL.out,HH.out]) (by rw[HH.out];exact hil)] at c1;have hsu:=Oy h V i (by rw[HVL.out,HH.out]) (by rw[HH.out];exact hil);generalize h.getD i 0=x1 at c1 hsu;generalize V.getD i 0=x2 at c2 hsu;have cf:=Ai rh i;have cl:=Ad rh;have hi1:(i:Int)≤7:=by omega
   have hi2:i≤7:=by omega
   have hi3:(i:Int)<8:=by omega
   have HSU:=Lib.hid hsu;have RH2:=Lib.hid rh;have RV2:=Lib.hid rv;have RY2:=Lib.hid rY;have HC2:=Lib.hid hch;clear hal hsu rh rv rY hch;go_wp2;go_still_tail 7,(by kernel_rfl)
   show wpList _ _ _ _ _ wr.drew
   go_wp2;go_roundg (8-(i+1))
   case measure=>omega
   have hws:=HW2.out.size;refine⟨i+1,by omega,rfl,by go_num,?_,?_,?_,(HC2.out.setCell (p:=⟨w.heap.size,i,none⟩) (.inr (Nat.le_refl _)) _).drew⟩
   · refine AM ?_
     have:=AV RH2.out i (wv (wa x1 x2));rw[this,Tf,HSU.out];rfl
   · exact AM (Ak RV2.out (by simp only[ne_eq];omega) _)
   exact AM (Ak RY2.out (by simp only[ne_eq];omega) _)
 have h8:i=h.length:=by rw[HH.out];omega
 have hd8:decide ((i:Int)<8)=false:=by simp;omega
 rw[h8,Ql h V (by rw[HVL.out,HH.out]), ←HST.out] at rh;have hsl:=Sha.Es h b HH.out;obtain⟨R,hR⟩:∃R,B6 (Sha.step h b)=R:=⟨_,rfl⟩
 have hRs:R.size=8:=by rw[←hR,Cy,hsl]
 have hR1:=EX (Sha.step h b);rw[hR] at rh hR1;have HR:=(hIq hR (aIq hRs hR1))
 have RH2:=Lib.hid rh;have RY2:=Lib.hid rY;have HC2:=Lib.hid hch;clear h8 hsl hR hRs hR1 rh rv rY hch hil
 go_wp2_with (first
  | ((with_reducible show zOq (.load 333 _));refine AJ rfl 333 _ rfl w.heap.size 0 rfl RH2.out Tryz.underlying333 rfl Ic (by rw[HR.out.2.1];omega) R (by simp[←HR.out.2.1]) ?_)
  | ((with_reducible show zOq (.store 333 _ _));refine AI rfl 333 _ _ rfl (w.heap.size+1+1) 0 R rfl rfl RY2.out (by rw[Ic,HR.out.2.1]) (by rw[HR.out.2.1,Y0.out.2];omega) HR.out.2.2 R (by rw[AT _ _ (by rw[Array.length_toList,Array.length_toList,HR.out.2.1,Y0.out.2])]) ?_))
 exact Af (p:=4) rfl rfl (AK RY2.out _) Tryz.underlying333 rfl (by rw[Ic,HR.out.2.1]) rfl ⟨by rw[HR.out.1],HC2.out.setRow (.inr (by omega)) _⟩
end Go.Proofs.YtngbdbpofifimaaGreat.ShaW

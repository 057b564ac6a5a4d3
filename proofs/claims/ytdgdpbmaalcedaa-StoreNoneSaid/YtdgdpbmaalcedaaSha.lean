/- SHA-256, plainly: the block step, a text's blocks, what a state that grows stands for. -/
import Derived.Test.YtdgdpbmaalcedaaWord
namespace Go.Proofs.Ytdgdpbmaalcedaa.Sha
open Go Go.Proofs.Ytdgdpbmaalcedaa
set_option linter.unusedVariables false

def kc : List UInt32 := [1116352408, 1899447441, 3049323471, 3921009573, 961987163, 1508970993, 2453635748, 2870763221, 3624381080, 310598401, 607225278, 1426881987, 1925078388, 2162078206, 2614888103, 3248222580, 3835390401, 4022224774, 264347078, 604807628, 770255983, 1249150122, 1555081692, 1996064986, 2554220882, 2821834349, 2952996808, 3210313671, 3336571891, 3584528711, 113926993, 338241895, 666307205, 773529912, 1294757372, 1396182291, 1695183700, 1986661051, 2177026350, 2456956037, 2730485921, 2820302411, 3259730800, 3345764771, 3516065817, 3600352804, 4094571909, 275423344, 430227734, 506948616, 659060556, 883997877, 958139571, 1322822218, 1537002063, 1747873779, 1955562222, 2024104815, 2227730452, 2361852424, 2428436474, 2756734187, 3204031479, 3329325298]
def h0 : List UInt32 := [1779033703, 3144134277, 1013904242, 2773480762, 1359893119, 2600822924, 528734635, 1541459225]
def be (a b c d : UInt8) : UInt32 := (((a.toUInt32 <<< 24) ||| (b.toUInt32 <<< 16)) ||| (c.toUInt32 <<< 8)) ||| d.toUInt32
def word (b : List UInt8) (i : Nat) : UInt32 := be (b.getD (4 * i) 0) (b.getD (4 * i + 1) 0) (b.getD (4 * i + 2) 0) (b.getD (4 * i + 3) 0)
def w16 (b : List UInt8) (k : Nat) : List UInt32 := (List.range k).map (word b)
def sig1 (x : UInt32) : UInt32 := (rotr x 17 ^^^ rotr x 19) ^^^ (x >>> 10)
def sig0 (y : UInt32) : UInt32 := (rotr y 7 ^^^ rotr y 18) ^^^ (y >>> 3)
/-- The next word of a schedule. -/
def next (w : List UInt32) : UInt32 := ((sig1 (w.getD (w.length - 2) 0) + w.getD (w.length - 7) 0) + sig0 (w.getD (w.length - 15) 0)) + w.getD (w.length - 16) 0
def ext (w : List UInt32) : Nat → List UInt32
  | 0 => w
  | n + 1 => ext w n ++ [next (ext w n)]
def sched (b : List UInt8) : List UInt32 := ext (w16 b 16) 48
/-- A round. -/
def round (k w : UInt32) (v : List UInt32) : List UInt32 :=
  let a := v.getD 0 0; let e := v.getD 4 0
  let one := (((v.getD 7 0 + ((rotr e 6 ^^^ rotr e 11) ^^^ rotr e 25)) + ((e &&& v.getD 5 0) ^^^ (~~~ e &&& v.getD 6 0))) + k) + w
  let two := ((rotr a 2 ^^^ rotr a 13) ^^^ rotr a 22) + (((a &&& v.getD 1 0) ^^^ (a &&& v.getD 2 0)) ^^^ (v.getD 1 0 &&& v.getD 2 0))
  [one + two, a, v.getD 1 0, v.getD 2 0, v.getD 3 0 + one, e, v.getD 5 0, v.getD 6 0]
def rounds (w : List UInt32) (h : List UInt32) : Nat → List UInt32
  | 0 => h
  | n + 1 => round (kc.getD n 0) (w.getD n 0) (rounds w h n)
def step (h : List UInt32) (b : List UInt8) : List UInt32 := List.zipWith (· + ·) h (rounds (sched b) h 64)
/-- All whole blocks of a text. -/
def run (h : List UInt32) : Nat → List UInt8 → List UInt32
  | 0, _ => h
  | n + 1, l => run (step h (l.take 64)) n (l.drop 64)
/-- The words behind all whole blocks of a text; what is left. -/
def words (l : List UInt8) : List UInt32 := run h0 (l.length / 64) l
def rest (l : List UInt8) : List UInt8 := l.drop (64 * (l.length / 64))
def be4 (x : UInt32) : List UInt8 := [(x >>> 24).toUInt8, (x >>> 16).toUInt8, (x >>> 8).toUInt8, x.toUInt8]
def zeros (n : Nat) : Nat := (55 + 64 - n % 64) % 64
def len8 (n : Nat) : List UInt8 := be4 (UInt32.ofNat (n * 8 / 4294967296)) ++ be4 (UInt32.ofNat (n * 8))
def pad (l : List UInt8) : List UInt8 := l ++ [128] ++ List.replicate (zeros l.length) 0 ++ len8 l.length
def sum (l : List UInt8) : List UInt8 := (words (pad l)).flatMap be4

theorem ext_length (w : List UInt32) : ∀ n, (ext w n).length = w.length + n
  | 0 => rfl
  | n + 1 => by simp [ext, ext_length w n]; omega
theorem w16_length (b : List UInt8) (k : Nat) : (w16 b k).length = k := by simp [w16]
theorem sched_length (b : List UInt8) : (sched b).length = 64 := by rw [sched, ext_length, w16_length]
theorem w16_succ (b : List UInt8) (k : Nat) : w16 b (k + 1) = w16 b k ++ [word b k] := by simp [w16, List.range_succ]
theorem rounds_length (w h : List UInt32) (hh : h.length = 8) : ∀ n, (rounds w h n).length = 8
  | 0 => hh
  | n + 1 => rfl
theorem step_length (h : List UInt32) (b : List UInt8) (hh : h.length = 8) : (step h b).length = 8 := by
  rw [step, List.length_zipWith, rounds_length _ _ hh, hh]; rfl
theorem run_length (n : Nat) : ∀ (h : List UInt32) (l : List UInt8), h.length = 8 → (run h n l).length = 8 := by
  induction n with
  | zero => intro h l hh; exact hh
  | succ n ih => intro h l hh; exact ih _ _ (step_length _ _ hh)
theorem words_length (l : List UInt8) : (words l).length = 8 := run_length _ _ _ rfl
theorem run_snoc (n : Nat) : ∀ (h : List UInt32) (l : List UInt8), run h (n + 1) l = step (run h n l) ((l.drop (64 * n)).take 64) := by
  induction n with
  | zero => intro h l; simp [run]
  | succ n ih =>
    intro h l
    show run (step h (l.take 64)) (n + 1) (l.drop 64) = _
    rw [ih]
    show step (run h (n + 1) l) _ = _
    rw [List.drop_drop, show 64 + 64 * n = 64 * (n + 1) by omega]
theorem run_append (n : Nat) : ∀ (h : List UInt32) (l m : List UInt8), 64 * n ≤ l.length → run h n (l ++ m) = run h n l := by
  induction n with
  | zero => intro h l m _; rfl
  | succ n ih =>
    intro h l m hl
    show run (step h ((l ++ m).take 64)) n ((l ++ m).drop 64) = run (step h (l.take 64)) n (l.drop 64)
    rw [List.take_append_of_le_length (by omega), List.drop_append_of_le_length (by omega)]
    exact ih _ _ _ (by simp; omega)
theorem rest_length (l : List UInt8) : (rest l).length = l.length % 64 := by
  simp [rest]; omega
/-- A text grows within its last block. -/
theorem grow_in {l m : List UInt8} (h : l.length % 64 + m.length < 64) : words (l ++ m) = words l ∧ rest (l ++ m) = rest l ++ m := by
  have e : (l ++ m).length / 64 = l.length / 64 := by simp; omega
  unfold words rest
  rw [e]
  refine ⟨run_append _ _ _ _ (by omega), ?_⟩
  rw [List.drop_append_of_le_length (by omega)]
/-- A text grows to its last block's end. -/
theorem grow_full {l m : List UInt8} (h : l.length % 64 + m.length = 64) : words (l ++ m) = step (words l) (rest l ++ m) ∧ rest (l ++ m) = [] := by
  have e : (l ++ m).length / 64 = l.length / 64 + 1 := by simp; omega
  have e2 : (l ++ m).length = 64 * (l.length / 64 + 1) := by simp; omega
  unfold words rest
  rw [e]
  refine ⟨?_, ?_⟩
  · rw [run_snoc, run_append _ _ _ _ (by omega), List.drop_append_of_le_length (by omega)]
    congr 1
    rw [List.take_of_length_le]
    simp; omega
  · rw [List.drop_eq_nil_of_le (by omega)]

end Go.Proofs.Ytdgdpbmaalcedaa.Sha

/- SHA-256 as plain functions of lists of bytes and numbers. No conditions. -/
import Derived.Test.YtfnlehnhcekpkaaDoorBytes
set_option linter.unusedVariables false
set_option linter.unusedSimpArgs false
namespace Go.Proofs.YtfnlehnhcekpkaaDoor
open Go Go.RowKit

def u32s (xs : List Int) : Array Value := (xs.map (Value.int .u32)).toArray
theorem u32s_get {xs : List Int} {i : Nat} (h : i < xs.length) : (u32s xs)[i]? = some (.int .u32 (xs.getD i 0)) := by
  simp [u32s, h]
theorem u32s_get' {xs : List Int} {i : Nat} (h : i < xs.length) : (u32s xs)[i]? = some (.int .u32 (xs[i]?.getD 0)) := by
  simp [u32s, h]
theorem u32s_set {xs : List Int} {i : Nat} (v : Int) : (u32s xs).setIfInBounds i (.int .u32 v) = u32s (xs.set i v) := by
  simp [u32s, List.map_set]
theorem IsBlk.set32 {w : World} {g : Nat} {xs : List Int} {t : TypeId} (h : IsBlk w g (u32s xs) t) (i : Nat) (v : Int) : IsBlk (w.setCell ⟨g, i, none⟩ (.int .u32 v)) g (u32s (xs.set i v)) t := by
  rw [← u32s_set]
  exact h.set i _
theorem u32s_size (xs : List Int) : (u32s xs).size = xs.length := by simp [u32s]

theorem u32s_app_get {xs : List Int} {ys : Array Value} {i : Nat} (h : i < xs.length) : (u32s xs ++ ys)[i]? = some (.int .u32 (xs[i]?.getD 0)) := by
  rw [Array.getElem?_append_left (by rw [u32s_size]; exact h)]
  exact u32s_get' h
theorem u32s_app_set {xs : List Int} {ys : Array Value} {i : Nat} (v : Int) (h : i < xs.length) : (u32s xs ++ ys).setIfInBounds i (.int .u32 v) = u32s (xs.set i v) ++ ys := by
  rw [← u32s_set]
  apply Array.ext_getElem?
  intro j
  by_cases e : i = j
  · subst e
    rw [Array.getElem?_setIfInBounds_self_of_lt (by simp [u32s_size]; omega), Array.getElem?_append_left (by simp [u32s_size]; omega), Array.getElem?_setIfInBounds_self_of_lt (by rw [u32s_size]; exact h)]
  · rw [Array.getElem?_setIfInBounds_ne e]
    by_cases hj : j < xs.length
    · rw [Array.getElem?_append_left (by rw [u32s_size]; exact hj), Array.getElem?_append_left (by simp [u32s_size]; exact hj), Array.getElem?_setIfInBounds_ne e]
    · rw [Array.getElem?_append_right (by rw [u32s_size]; omega), Array.getElem?_append_right (by simp [u32s_size]; omega)]
      simp [u32s_size]
/-- The byte at i; 0 beyond the end. -/
def by_ (l : List UInt8) (i : Nat) : Int := ((l.getD i 0).toNat : Int)
theorem by_at (s : ByteArray) (i : Nat) (h : i < s.size) : ((s[i]'h).toNat : Int) = by_ s.data.toList i := by
  unfold by_
  rw [List.getD_eq_getElem?_getD, List.getElem?_eq_getElem (by simpa using h)]
  rfl
theorem by_lt (l : List UInt8) (i : Nat) : 0 ≤ by_ l i ∧ by_ l i < 256 := by
  unfold by_
  have := (l.getD i 0).toNat_lt
  omega

def rot (x n : Int) : Int := bits .or .u32 (x * 2 ^ (32 - n).toNat % 4294967296) (x / 2 ^ n.toNat)
def x3 (a b c : Int) : Int := bits .xor .u32 (bits .xor .u32 a b) c
def word (l : List UInt8) (k : Nat) : Int := by_ l (4 * k) * 16777216 + by_ l (4 * k + 1) * 65536 + by_ l (4 * k + 2) * 256 + by_ l (4 * k + 3)
def nextW (xs : List Int) (k : Nat) : Int :=
  (xs[k - 16]?.getD 0 + x3 (rot (xs[k - 15]?.getD 0) 7) (rot (xs[k - 15]?.getD 0) 18) (xs[k - 15]?.getD 0 / 8) + xs[k - 7]?.getD 0 + x3 (rot (xs[k - 2]?.getD 0) 17) (rot (xs[k - 2]?.getD 0) 19) (xs[k - 2]?.getD 0 / 1024)) % 4294967296
def sched (l : List UInt8) : Nat → List Int
  | 0 => []
  | k + 1 => sched l k ++ [if k < 16 then word l k else nextW (sched l k) k]
theorem sched_length (l : List UInt8) (k : Nat) : (sched l k).length = k := by
  induction k with
  | zero => rfl
  | succ k ih => simp [sched, ih]
/-- The words' array, k of them filled. -/
def schedA (l : List UInt8) (k : Nat) : List Int := sched l k ++ List.replicate (64 - k) 0
theorem schedA_length (l : List UInt8) (k : Nat) (h : k ≤ 64) : (schedA l k).length = 64 := by
  simp [schedA, sched_length]; omega
theorem schedA_get (l : List UInt8) (k i : Nat) (h : i < k) : (schedA l k)[i]?.getD 0 = (sched l k)[i]?.getD 0 := by
  rw [schedA, List.getElem?_append_left (by rw [sched_length]; exact h)]
theorem schedA_set (l : List UInt8) (k : Nat) (h : k < 64) (v : Int) (hv : v = if k < 16 then word l k else nextW (sched l k) k) : (schedA l k).set k v = schedA l (k + 1) := by
  subst hv
  have h1 : List.replicate (64 - k) (0 : Int) = 0 :: List.replicate (64 - (k + 1)) 0 := by
    rw [show 64 - k = (64 - (k + 1)) + 1 by omega, List.replicate_succ]
  rw [schedA, h1, List.set_append_right _ _ (by rw [sched_length]; omega), sched_length, Nat.sub_self]
  simp [schedA, sched]

def kTab : List Int := [
  0x428a2f98, 0x71374491, 0xb5c0fbcf, 0xe9b5dba5, 0x3956c25b, 0x59f111f1, 0x923f82a4, 0xab1c5ed5,
  0xd807aa98, 0x12835b01, 0x243185be, 0x550c7dc3, 0x72be5d74, 0x80deb1fe, 0x9bdc06a7, 0xc19bf174,
  0xe49b69c1, 0xefbe4786, 0x0fc19dc6, 0x240ca1cc, 0x2de92c6f, 0x4a7484aa, 0x5cb0a9dc, 0x76f988da,
  0x983e5152, 0xa831c66d, 0xb00327c8, 0xbf597fc7, 0xc6e00bf3, 0xd5a79147, 0x06ca6351, 0x14292967,
  0x27b70a85, 0x2e1b2138, 0x4d2c6dfc, 0x53380d13, 0x650a7354, 0x766a0abb, 0x81c2c92e, 0x92722c85,
  0xa2bfe8a1, 0xa81a664b, 0xc24b8b70, 0xc76c51a3, 0xd192e819, 0xd6990624, 0xf40e3585, 0x106aa070,
  0x19a4c116, 0x1e376c08, 0x2748774c, 0x34b0bcb5, 0x391c0cb3, 0x4ed8aa4a, 0x5b9cca4f, 0x682e6ff3,
  0x748f82ee, 0x78a5636f, 0x84c87814, 0x8cc70208, 0x90befffa, 0xa4506ceb, 0xbef9a3f7, 0xc67178f2]
theorem kTab_length : kTab.length = 64 := rfl

def tOf (e f g h k w : Int) : Int := (h + x3 (rot e 6) (rot e 11) (rot e 25) + bits .xor .u32 (bits .and .u32 e f) (bits .and .u32 (bits .xor .u32 IntKind.u32.max e) g) + k + w) % 4294967296
def uOf (a b c : Int) : Int := (x3 (rot a 2) (rot a 13) (rot a 22) + x3 (bits .and .u32 a b) (bits .and .u32 a c) (bits .and .u32 b c)) % 4294967296
def step (v : List Int) (k w : Int) : List Int := match v with
  | [a, b, c, d, e, f, g, h] => [(tOf e f g h k w + uOf a b c) % 4294967296, a, b, c, (d + tOf e f g h k w) % 4294967296, e, f, g]
  | _ => v
theorem step_eq (a b c d e f g h k w : Int) : step [a, b, c, d, e, f, g, h] k w =
    [(h + x3 (rot e 6) (rot e 11) (rot e 25) + bits .xor .u32 (bits .and .u32 e f) (bits .and .u32 (bits .xor .u32 IntKind.u32.max e) g) + k + w + (x3 (rot a 2) (rot a 13) (rot a 22) + x3 (bits .and .u32 a b) (bits .and .u32 a c) (bits .and .u32 b c))) % 4294967296, a, b, c,
     (d + (h + x3 (rot e 6) (rot e 11) (rot e 25) + bits .xor .u32 (bits .and .u32 e f) (bits .and .u32 (bits .xor .u32 IntKind.u32.max e) g) + k + w)) % 4294967296, e, f, g] := by
  simp only [step, tOf, uOf, List.cons.injEq, and_true, true_and]
  exact ⟨by omega, by omega⟩
def rnd (ws : List Int) (v : List Int) : Nat → List Int
  | 0 => v
  | i + 1 => step (rnd ws v i) (kTab[i]?.getD 0) (ws[i]?.getD 0)
theorem rnd_next {ws v : List Int} {i : Nat} {a b c d e f g h : Int} (hr : rnd ws v i = [a, b, c, d, e, f, g, h]) : rnd ws v (i + 1) =
    [(h + x3 (rot e 6) (rot e 11) (rot e 25) + bits .xor .u32 (bits .and .u32 e f) (bits .and .u32 (bits .xor .u32 IntKind.u32.max e) g) + kTab[i]?.getD 0 + ws[i]?.getD 0 + (x3 (rot a 2) (rot a 13) (rot a 22) + x3 (bits .and .u32 a b) (bits .and .u32 a c) (bits .and .u32 b c))) % 4294967296, a, b, c,
     (d + (h + x3 (rot e 6) (rot e 11) (rot e 25) + bits .xor .u32 (bits .and .u32 e f) (bits .and .u32 (bits .xor .u32 IntKind.u32.max e) g) + kTab[i]?.getD 0 + ws[i]?.getD 0)) % 4294967296, e, f, g] := by
  rw [rnd, hr, step_eq]
/-- The first k sums. -/
def addN (hs vs : List Int) (k : Nat) : List Int := (List.range hs.length).map fun i => if i < k then (hs[i]?.getD 0 + vs[i]?.getD 0) % 4294967296 else hs[i]?.getD 0
theorem addN_length (hs vs : List Int) (k : Nat) : (addN hs vs k).length = hs.length := by simp [addN]
theorem addN_zero (hs vs : List Int) : addN hs vs 0 = hs := by
  apply List.ext_getElem
  · simp [addN]
  · intro i h1 h2
    simp [addN, List.getElem?_eq_getElem h2]
theorem addN_set (hs vs : List Int) (k : Nat) (hk : k < hs.length) : (addN hs vs k).set k ((hs[k]?.getD 0 + vs[k]?.getD 0) % 4294967296) = addN hs vs (k + 1) := by
  apply List.ext_getElem
  · simp [addN]
  · intro i h1 h2
    simp only [addN, List.getElem_set, List.getElem_map, List.getElem_range]
    by_cases e : k = i
    · subst e; simp
    · rw [if_neg e]
      by_cases h : i < k
      · rw [if_pos h, if_pos (by omega)]
      · rw [if_neg h, if_neg (by omega)]
theorem addN_at (hs vs : List Int) (k : Nat) (hk : k < hs.length) : (addN hs vs k)[k]?.getD 0 = hs[k]?.getD 0 := by
  simp [addN, hk]
/-- The words behind a block. -/
def blk (hs : List Int) (l : List UInt8) : List Int := addN hs (rnd (sched l 64) hs 64) 8
theorem step_length (v : List Int) (k w : Int) (h : v.length = 8) : (step v k w).length = 8 := by
  match v, h with
  | [a, b, c, d, e, f, g, h], _ => rfl
theorem rnd_length (ws v : List Int) (h : v.length = 8) (i : Nat) : (rnd ws v i).length = 8 := by
  induction i with
  | zero => exact h
  | succ i ih => exact step_length _ _ _ ih
theorem blk_length (hs : List Int) (l : List UInt8) : (blk hs l).length = hs.length := addN_length _ _ _
theorem of_eight {v : List Int} (h : v.length = 8) : ∃ a b c d e f g h', v = [a, b, c, d, e, f, g, h'] := by
  match v, h with
  | [a, b, c, d, e, f, g, h], _ => exact ⟨a, b, c, d, e, f, g, h, rfl⟩

/-- Whole blocks change the words; what is left. -/
def absorb : Nat → List Int → List UInt8 → List Int × List UInt8
  | 0, hs, l => (hs, l)
  | n + 1, hs, l => if 64 ≤ l.length then absorb n (blk hs l) (l.drop 64) else (hs, l)
def more (hs : List Int) (l : List UInt8) : List Int × List UInt8 := absorb (l.length / 64) hs l
def h0 : List Int := [0x6a09e667, 0xbb67ae85, 0x3c6ef372, 0xa54ff53a, 0x510e527f, 0x9b05688c, 0x1f83d9ab, 0x5be0cd19]
def bytes8 (n : Nat) : List UInt8 := [56, 48, 40, 32, 24, 16, 8, 0].map fun i => UInt8.ofNat (n / 2 ^ i % 256)
/-- What stands behind a text of n bytes. -/
def pad (n : Nat) : List UInt8 := 128 :: List.replicate ((119 - n % 64) % 64) 0 ++ bytes8 (8 * n % 18446744073709551616)
def outB (hs : List Int) : List UInt8 := hs.flatMap fun x => [UInt8.ofNat (x / 16777216 % 256).toNat, UInt8.ofNat (x / 65536 % 256).toNat, UInt8.ofNat (x / 256 % 256).toNat, UInt8.ofNat (x % 256).toNat]
def endOf (hs : List Int) (rest : List UInt8) (n : Nat) : List UInt8 := outB (more hs (rest ++ pad n)).1
def shaL (l : List UInt8) : List UInt8 := endOf (more h0 l).1 (more h0 l).2 l.length
def hexL (l : List UInt8) : List UInt8 := l.flatMap fun b => [[48, 49, 50, 51, 52, 53, 54, 55, 56, 57, 97, 98, 99, 100, 101, 102].getD (b.toNat / 16) 0, [48, 49, 50, 51, 52, 53, 54, 55, 56, 57, 97, 98, 99, 100, 101, 102].getD (b.toNat % 16) 0]
set_option maxRecDepth 100000 in
theorem abc : hexL (shaL [97, 98, 99]) = [98, 97, 55, 56, 49, 54, 98, 102, 56, 102, 48, 49, 99, 102, 101, 97, 52, 49, 52, 49, 52, 48, 100, 101, 53, 100, 97, 101, 50, 50, 50, 51, 98, 48, 48, 51, 54, 49, 97, 51, 57, 54, 49, 55, 55, 97, 57, 99, 98, 52, 49, 48, 102, 102, 54, 49, 102, 50, 48, 48, 49, 53, 97, 100] := by decide +kernel
end Go.Proofs.YtfnlehnhcekpkaaDoor

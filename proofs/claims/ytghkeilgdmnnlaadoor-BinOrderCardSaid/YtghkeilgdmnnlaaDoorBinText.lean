/- A value's text as a plain function. No conditions. -/
import Derived.Test.YtghkeilgdmnnlaaDoorBinWr
import Derived.Laws.Bits64b
set_option linter.unusedVariables false
set_option linter.unusedSimpArgs false
namespace Go.Proofs.YtghkeilgdmnnlaaDoor
open Go Go.RowKit

/-- A number's sign at its end. -/
def zigN (n : Int) : Nat := if 0 ≤ n then (2 * n).toNat else (-2 * n - 1).toNat
mutual
def textV : DVal → List UInt8
  | .mk k b n s l f => if k = 0 then [0] else if k = 1 then [if b then 2 else 1] else if k = 2 then 3 :: numL (zigN n) else if k = 3 then 4 :: bytesL s else if k = 4 then 5 :: bytesL s
    else if k = 5 then 6 :: (numL l.length ++ textL l) else if k = 6 then 7 :: (numL f.length ++ textF f) else []
def textL : List DVal → List UInt8
  | [] => []
  | v :: l => textV v ++ textL l
def textF : List (List UInt8 × DVal) → List UInt8
  | [] => []
  | (x, v) :: l => (bytesL x ++ textV v) ++ textF l
end
def tsL (l : List DVal) (i : Nat) : List UInt8 := match l[i]? with | some v => textV v | none => []
def tsF (f : List (List UInt8 × DVal)) (i : Nat) : List UInt8 := match f[i]? with | some p => bytesL p.1 ++ textV p.2 | none => []
theorem tsL_at {l : List DVal} {i : Nat} (h : i < l.length) : tsL l i = textV l[i] := by rw [tsL, List.getElem?_eq_getElem h]
theorem tsF_at {f : List (List UInt8 × DVal)} {i : Nat} (h : i < f.length) : tsF f i = bytesL f[i].1 ++ textV f[i].2 := by rw [tsF, List.getElem?_eq_getElem h]
theorem textL_app : ∀ (l m : List DVal), textL (l ++ m) = textL l ++ textL m
  | [], m => by simp [textL]
  | v :: l, m => by rw [List.cons_append, textL, textL, textL_app l m, List.append_assoc]
theorem textF_app : ∀ (l m : List (List UInt8 × DVal)), textF (l ++ m) = textF l ++ textF m
  | [], m => by simp [textF]
  | (x, v) :: l, m => by rw [List.cons_append, textF, textF, textF_app l m, List.append_assoc (bytesL x ++ textV v)]
theorem catN_textL (l : List DVal) : ∀ i, i ≤ l.length → catN (tsL l) i = textL (l.take i) := by
  intro i
  induction i with
  | zero => intro _; simp [catN, textL]
  | succ i ih =>
    intro h
    rw [catN, ih (by omega), List.take_succ_eq_append_getElem (by omega), textL_app, tsL_at (by omega), textL, textL, List.append_nil]
theorem catN_textF (f : List (List UInt8 × DVal)) : ∀ i, i ≤ f.length → catN (tsF f) i = textF (f.take i) := by
  intro i
  induction i with
  | zero => intro _; simp [catN, textF]
  | succ i ih =>
    intro h
    rw [catN, ih (by omega), List.take_succ_eq_append_getElem (by omega), textF_app, tsF_at (by omega)]
    generalize f[i] = p
    obtain ⟨x, v⟩ := p
    rw [textF, textF, List.append_nil]
theorem catN_L (l : List DVal) : catN (tsL l) l.length = textL l := by rw [catN_textL l _ (Nat.le_refl _), List.take_length]
theorem catN_F (f : List (List UInt8 × DVal)) : catN (tsF f) f.length = textF f := by rw [catN_textF f _ (Nat.le_refl _), List.take_length]
theorem zigN_lt {n : Int} (h0 : -9223372036854775808 ≤ n) (h1 : n ≤ 9223372036854775807) : zigN n < 18446744073709551616 := by
  unfold zigN
  split <;> omega
theorem xor_ones (a : Nat) (h : a < 18446744073709551616) : a ^^^ 18446744073709551615 = 18446744073709551615 - a := by
  have e := congrArg BitVec.toNat (BitVec.xor_allOnes (x := BitVec.ofNat 64 a))
  rw [BitVec.toNat_xor, BitVec.toNat_not, BitVec.toNat_allOnes, BitVec.toNat_ofNat, Nat.mod_eq_of_lt (by omega)] at e
  exact e
theorem zig_walk (n : Int) (h0 : -9223372036854775808 ≤ n) (h1 : n ≤ 9223372036854775807) :
    bits .xor .u64 (IntKind.u64.wrap (IntKind.u64.wrap n * 2)) (IntKind.u64.wrap (n / 9223372036854775808)) = ((zigN n : Nat) : Int) := by
  by_cases hn : 0 ≤ n
  · obtain ⟨a, rfl⟩ := Int.eq_ofNat_of_zero_le hn
    have e1 : IntKind.u64.wrap (IntKind.u64.wrap (a : Int) * 2) = ((2 * a : Nat) : Int) := by
      rw [IntKind.wrap_u64, IntKind.wrap_u64]; omega
    have e2 : IntKind.u64.wrap ((a : Int) / 9223372036854775808) = ((0 : Nat) : Int) := by
      rw [IntKind.wrap_u64]; omega
    rw [e1, e2, bits_xor_u64_nat _ _ (by omega) (by omega), Nat.xor_zero, zigN, if_pos hn]
    omega
  · have e1 : IntKind.u64.wrap (IntKind.u64.wrap n * 2) = (((2 * n + 18446744073709551616).toNat : Nat) : Int) := by
      rw [IntKind.wrap_u64, IntKind.wrap_u64]; omega
    have e2 : IntKind.u64.wrap (n / 9223372036854775808) = ((18446744073709551615 : Nat) : Int) := by
      rw [IntKind.wrap_u64]; omega
    rw [e1, e2, bits_xor_u64_nat _ _ (by omega) (by omega), xor_ones _ (by omega), zigN, if_neg hn]
    omega
end Go.Proofs.YtghkeilgdmnnlaaDoor

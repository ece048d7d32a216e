/- Reading a number off bytes, as a plain function; its laws. No conditions. -/
import Derived.Test.YtghkeilgdmnnlaaDoorBinNum
set_option linter.unusedVariables false
set_option linter.unusedSimpArgs false
namespace Go.Proofs.YtghkeilgdmnnlaaDoor
open Go Go.RowKit

/-- The number with which bytes begin, and how many bytes it takes; at most so many; whether none was read yet. -/
def readN : Bool → Nat → List UInt8 → Option (Nat × Nat)
  | _, 0, _ => none
  | _, _ + 1, [] => none
  | first, k + 1, b :: s => if b.toNat < 128 then (if (k = 0 ∧ 1 < b.toNat) ∨ (first = false ∧ b.toNat = 0) then none else some (b.toNat, 1)) else (readN false k s).map fun p => (b.toNat % 128 + 128 * p.1, p.2 + 1)
def readNum (s : List UInt8) : Option (Nat × Nat) := readN true 10 s
theorem u8_nat_low (m : Nat) (h : m < 256) : (UInt8.ofNat m).toNat = m := by
  rw [UInt8.toNat_ofNat']
  omega
theorem readN_numF : ∀ (k n : Nat) (first : Bool) (s : List UInt8), n < 2 * 128 ^ k → (first = true ∨ 0 < n) → readN first (k + 1) (numF (k + 1) n ++ s) = some (n, (numF (k + 1) n).length) := by
  intro k
  induction k with
  | zero =>
    intro n first s hn hf
    rw [Nat.pow_zero] at hn
    rw [numF_small (by omega), List.singleton_append, readN, u8_nat_low _ (by omega), if_pos (by omega), if_neg]
    · rfl
    · rintro (h | h)
      · omega
      · rcases hf with h1 | h1
        · rw [h1] at h; cases h.1
        · omega
  | succ k ih =>
    intro n first s hn hf
    by_cases hlt : n < 128
    · rw [numF_small hlt, List.singleton_append, readN, u8_nat_low _ (by omega), if_pos hlt, if_neg]
      · rfl
      · rintro (h | h)
        · omega
        · rcases hf with h1 | h1
          · rw [h1] at h; cases h.1
          · omega
    · rw [numF_big hlt, List.cons_append, readN, u8_nat_low _ (by omega), if_neg (by omega), ih (n / 128) false s (by rw [Nat.pow_succ] at hn; omega) (Or.inr (by omega))]
      simp only [Option.map_some, List.length_cons, Option.some.injEq, Prod.mk.injEq, and_true]
      omega
theorem readNum_numL (n : Nat) (h : n < 18446744073709551616) (s : List UInt8) : readNum (numL n ++ s) = some (n, (numL n).length) := readN_numF 9 n true s (by omega) (Or.inl rfl)
theorem readN_pos : ∀ (k : Nat) (first : Bool) (s : List UInt8) (v c : Nat), readN first k s = some (v, c) → (first = true ∨ 0 < v) ∧ numF k v = s.take c ∧ c ≤ s.length ∧ 1 ≤ c ∧ c ≤ k := by
  intro k
  induction k with
  | zero => intro first s v c h; cases h
  | succ k ih =>
    intro first s v c h
    cases s with
    | nil => cases h
    | cons b s =>
      rw [readN] at h
      by_cases hb : b.toNat < 128
      · rw [if_pos hb] at h
        by_cases hc : (k = 0 ∧ 1 < b.toNat) ∨ (first = false ∧ b.toNat = 0)
        · rw [if_pos hc] at h; cases h
        · rw [if_neg hc] at h
          simp only [Option.some.injEq, Prod.mk.injEq] at h
          obtain ⟨rfl, rfl⟩ := h
          refine ⟨?_, ?_, by simp, by omega, by omega⟩
          · cases first with
            | true => exact Or.inl rfl
            | false => right; have : ¬ b.toNat = 0 := fun e => hc (Or.inr ⟨rfl, e⟩); omega
          · rw [numF_small hb]
            simp
      · rw [if_neg hb] at h
        rw [Option.map_eq_some_iff] at h
        obtain ⟨p, hp, he⟩ := h
        simp only [Prod.mk.injEq] at he
        obtain ⟨rfl, rfl⟩ := he
        obtain ⟨h1, h2, h3, h4, h5⟩ := ih false s p.1 p.2 hp
        have hp0 : 0 < p.1 := by
          rcases h1 with h1 | h1
          · cases h1
          · exact h1
        have hb2 := b.toNat_lt
        refine ⟨Or.inr (by omega), ?_, by simp; omega, by omega, by omega⟩
        rw [numF_big (by omega), show (b.toNat % 128 + 128 * p.1) / 128 = p.1 by omega, h2, show (b.toNat % 128 + 128 * p.1) % 128 + 128 = b.toNat by omega, List.take_succ_cons]
        congr 1
        exact UInt8.ofNat_toNat
end Go.Proofs.YtghkeilgdmnnlaaDoor

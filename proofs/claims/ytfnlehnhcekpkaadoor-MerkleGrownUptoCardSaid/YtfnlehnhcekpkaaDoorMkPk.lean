/- Peaks of texts that were added one by one: as many as their number has ones, the next text's peaks, their top is the root. No program in sight. Conditions: fewer than 2^40 texts. -/
import Derived.Test.YtfnlehnhcekpkaaDoorMkX
set_option linter.unusedVariables false
set_option linter.unusedSimpArgs false
namespace Go.Proofs.YtfnlehnhcekpkaaDoor
open Go Go.RowKit
set_option maxRecDepth 100000

/-- The peaks of texts fewer than 2^f. -/
def pkF : Nat → List (List UInt8) → List (List UInt8)
  | 0, _ => []
  | f + 1, l => if 2 ^ f ≤ l.length then rootL (l.take (2 ^ f)) :: pkF f (l.drop (2 ^ f)) else pkF f l
theorem pkF_nil : ∀ f, pkF f [] = []
  | 0 => rfl
  | f + 1 => by
    have := Nat.one_le_two_pow (n := f)
    rw [pkF, if_neg (by simp only [List.length_nil]; omega), pkF_nil f]
theorem pkF_32 : ∀ (f : Nat) (l : List (List UInt8)), ∀ s ∈ pkF f l, s.length = 32
  | 0, l, s, h => by cases h
  | f + 1, l, s, h => by
    rw [pkF] at h
    by_cases h1 : 2 ^ f ≤ l.length
    · rw [if_pos h1] at h
      rcases List.mem_cons.1 h with rfl | h
      · exact rootL_len _
      · exact pkF_32 f _ s h
    · rw [if_neg h1] at h
      exact pkF_32 f _ s h
theorem onesF_more : ∀ (f n : Nat), n < 2 ^ f → onesF (f + 1) n = onesF f n
  | 0, n, h => by
    obtain rfl : n = 0 := by simpa using h
    rfl
  | f + 1, n, h => by
    rw [Nat.pow_succ] at h
    rw [onesF, onesF_more f (n / 2) (by omega), ← onesF]
theorem onesF_high : ∀ (f m : Nat), m < 2 ^ f → onesF (f + 1) (2 ^ f + m) = 1 + onesF f m
  | 0, m, h => by
    obtain rfl : m = 0 := by simpa using h
    rfl
  | f + 1, m, h => by
    rw [Nat.pow_succ] at h
    rw [onesF, show (2 ^ (f + 1) + m) / 2 = 2 ^ f + m / 2 by rw [Nat.pow_succ]; omega, onesF_high f (m / 2) (by omega), show (2 ^ (f + 1) + m) % 2 = m % 2 by rw [Nat.pow_succ]; omega]
    show m % 2 + (1 + onesF f (m / 2)) = 1 + (m % 2 + onesF f (m / 2))
    omega
theorem pkF_length : ∀ (f : Nat) (l : List (List UInt8)), l.length < 2 ^ f → (pkF f l).length = onesF f l.length
  | 0, l, h => rfl
  | f + 1, l, h => by
    rw [Nat.pow_succ] at h
    rw [pkF]
    by_cases h1 : 2 ^ f ≤ l.length
    · rw [if_pos h1, List.length_cons, pkF_length f _ (by rw [List.length_drop]; omega), List.length_drop]
      have := onesF_high f (l.length - 2 ^ f) (by omega)
      rw [show 2 ^ f + (l.length - 2 ^ f) = l.length by omega] at this
      rw [this]
      omega
    · rw [if_neg h1, pkF_length f l (by omega), onesF_more f _ (by omega)]
theorem tzF_full : ∀ (f g : Nat), f ≤ g → tzF g (2 ^ f - 1) = f
  | 0, 0, _ => rfl
  | 0, g + 1, _ => rfl
  | f + 1, g + 1, h => by
    have h1 := Nat.one_le_two_pow (n := f)
    rw [tzF, if_pos (by rw [Nat.pow_succ]; omega), show (2 ^ (f + 1) - 1) / 2 = 2 ^ f - 1 by rw [Nat.pow_succ]; omega, tzF_full f g (by omega)]
    omega
theorem tzF_low : ∀ (f g m : Nat), m + 1 < 2 ^ f → tzF g (2 ^ f + m) = tzF g m
  | 0, g, m, h => by simp at h
  | f + 1, 0, m, h => rfl
  | f + 1, g + 1, m, h => by
    rw [Nat.pow_succ] at h
    rw [tzF, tzF, show (2 ^ (f + 1) + m) % 2 = m % 2 by rw [Nat.pow_succ]; omega, show (2 ^ (f + 1) + m) / 2 = 2 ^ f + m / 2 by rw [Nat.pow_succ]; omega]
    by_cases h2 : m % 2 = 1
    · rw [if_pos h2, if_pos h2, tzF_low f g (m / 2) (by omega)]
    · rw [if_neg h2, if_neg h2]
theorem halfN_pow {f n : Nat} (h1 : 2 ^ f < n) (h2 : n ≤ 2 ^ (f + 1)) (h : n ≤ 1099511627776) : halfN n = 2 ^ f := by
  have h0 := Nat.one_le_two_pow (n := f)
  obtain ⟨a, b, c⟩ := bitLen_pow (n - 1) (n - 1) (Nat.le_refl _) (by omega) (by omega)
  unfold halfN
  have e : Lib.bitLen (n - 1) - 1 = f := by
    rcases Nat.lt_trichotomy (Lib.bitLen (n - 1) - 1) f with h | h | h
    · have := Nat.pow_le_pow_right (show 0 < 2 by omega) (show Lib.bitLen (n - 1) ≤ f by omega)
      omega
    · exact h
    · have := Nat.pow_le_pow_right (show 0 < 2 by omega) (show f + 1 ≤ Lib.bitLen (n - 1) - 1 by omega)
      omega
  rw [e]
theorem pow40 {f : Nat} (h : f ≤ 40) : 2 ^ f ≤ 1099511627776 := Nat.le_trans (Nat.pow_le_pow_right (by omega) h) (by decide)
theorem pkF_full (s : List UInt8) : ∀ (f : Nat), f ≤ 39 → ∀ l : List (List UInt8), l.length = 2 ^ f - 1 → foldT (leafL s) (pkF f l) = rootL (l ++ [s]) ∧ (pkF f l).length = f
  | 0, _, l, h => by
    obtain rfl : l = [] := List.eq_nil_of_length_eq_zero (by simpa using h)
    exact ⟨rfl, rfl⟩
  | f + 1, hf, l, h => by
    have h1 := Nat.one_le_two_pow (n := f)
    have h40 := pow40 (f := f + 1) (by omega)
    rw [Nat.pow_succ] at h h40
    obtain ⟨ih, il⟩ := pkF_full s f (by omega) (l.drop (2 ^ f)) (by rw [List.length_drop]; omega)
    rw [pkF, if_pos (by omega)]
    refine ⟨?_, by rw [List.length_cons, il]⟩
    show nodeL _ (foldT _ _) = _
    have hh : halfN (l ++ [s]).length = 2 ^ f := halfN_pow (by rw [List.length_append, List.length_singleton]; omega) (by rw [List.length_append, List.length_singleton, Nat.pow_succ]; omega) (by rw [List.length_append, List.length_singleton]; omega)
    rw [ih, rootL_two (l := l ++ [s]) (by rw [List.length_append, List.length_singleton]; omega) (by rw [List.length_append, List.length_singleton]; omega), hh, List.take_append_of_le_length (by omega), List.drop_append_of_le_length (by omega)]
def addK (X : List (List UInt8)) (t : Nat) (s : List UInt8) : List (List UInt8) := X.take (X.length - t) ++ [foldT (leafL s) (X.drop (X.length - t))]
theorem pkF_add (s : List UInt8) : ∀ (f : Nat), f ≤ 39 → ∀ l : List (List UInt8), l.length + 1 < 2 ^ f → tzN l.length ≤ (pkF f l).length ∧ addK (pkF f l) (tzN l.length) s = pkF f (l ++ [s])
  | 0, _, l, h => by simp at h
  | f + 1, hf, l, h => by
    have h1 := Nat.one_le_two_pow (n := f)
    rw [Nat.pow_succ] at h
    by_cases hA : 2 ^ f ≤ l.length
    · obtain ⟨ih, ia⟩ := pkF_add s f (by omega) (l.drop (2 ^ f)) (by rw [List.length_drop]; omega)
      have ht : tzN l.length = tzN (l.drop (2 ^ f)).length := by
        have := tzF_low f 64 (l.length - 2 ^ f) (by omega)
        rw [show 2 ^ f + (l.length - 2 ^ f) = l.length by omega] at this
        rw [List.length_drop]
        exact this
      rw [ht, pkF, if_pos hA, pkF, if_pos (by rw [List.length_append]; omega), List.take_append_of_le_length hA, List.drop_append_of_le_length hA, ← ia, List.length_cons]
      refine ⟨by omega, ?_⟩
      unfold addK
      rw [List.length_cons, show (pkF f (l.drop (2 ^ f))).length + 1 - tzN (l.drop (2 ^ f)).length = ((pkF f (l.drop (2 ^ f))).length - tzN (l.drop (2 ^ f)).length) + 1 by omega, List.take_succ_cons, List.drop_succ_cons]
      rfl
    · by_cases hB : l.length + 1 < 2 ^ f
      · rw [pkF, if_neg hA, pkF, if_neg (by rw [List.length_append, List.length_singleton]; omega)]
        exact pkF_add s f (by omega) l hB
      · have hl : l.length = 2 ^ f - 1 := by omega
        obtain ⟨e, el⟩ := pkF_full s f (by omega) l hl
        have ht : tzN l.length = f := by rw [hl]; exact tzF_full f 64 (by omega)
        have hls : (l ++ [s]).length = 2 ^ f := by rw [List.length_append, List.length_singleton]; omega
        rw [ht, pkF, if_neg hA, pkF, if_pos (by omega), ← hls, List.take_length, List.drop_length, pkF_nil]
        refine ⟨by omega, ?_⟩
        unfold addK
        rw [el, Nat.sub_self, List.take_zero, List.drop_zero, e]
        rfl
theorem topL_cons (a : List UInt8) {X : List (List UInt8)} (h : X ≠ []) : topL (a :: X) = nodeL a (topL X) := by
  cases X with
  | nil => exact absurd rfl h
  | cons b Y =>
    unfold topL
    rw [List.getLast?_cons_cons, List.dropLast_cons_cons]
    rfl
theorem pkF_ne : ∀ (f : Nat) (l : List (List UInt8)), l.length < 2 ^ f → l ≠ [] → pkF f l ≠ []
  | 0, l, h, h0 => by
    have : l = [] := List.eq_nil_of_length_eq_zero (by simpa using h)
    exact absurd this h0
  | f + 1, l, h, h0 => by
    rw [pkF]
    by_cases h1 : 2 ^ f ≤ l.length
    · rw [if_pos h1]; exact List.cons_ne_nil _ _
    · rw [if_neg h1]; exact pkF_ne f l (by omega) h0
theorem pkF_top : ∀ (f : Nat), f ≤ 39 → ∀ l : List (List UInt8), l ≠ [] → l.length < 2 ^ f → topL (pkF f l) = rootL l
  | 0, _, l, h0, h => by
    have : l = [] := List.eq_nil_of_length_eq_zero (by simpa using h)
    exact absurd this h0
  | f + 1, hf, l, h0, h => by
    have h1 := Nat.one_le_two_pow (n := f)
    have h40 := pow40 (f := f + 1) (by omega)
    rw [pkF]
    by_cases hA : 2 ^ f ≤ l.length
    · rw [if_pos hA]
      by_cases hd : l.drop (2 ^ f) = []
      · have hl : l.length ≤ 2 ^ f := by
          have := congrArg List.length hd
          rw [List.length_drop, List.length_nil] at this
          omega
        rw [hd, pkF_nil, List.take_of_length_le hl]
        rfl
      · have hlt : 2 ^ f < l.length := by
          rcases Nat.lt_or_ge (2 ^ f) l.length with h | h
          · exact h
          · exact absurd (List.drop_eq_nil_of_le h) hd
        rw [Nat.pow_succ] at h h40
        rw [topL_cons _ (pkF_ne f _ (by rw [List.length_drop]; omega) hd), pkF_top f (by omega) _ hd (by rw [List.length_drop]; omega)]
        have hh : halfN l.length = 2 ^ f := halfN_pow hlt (by rw [Nat.pow_succ]; omega) (by omega)
        rw [rootL_two (l := l) (by omega) (by omega), hh]
    · rw [if_neg hA]
      exact pkF_top f (by omega) l h0 (by omega)
def pkN (l : List (List UInt8)) : List (List UInt8) := pkF 12 l
theorem dig32_of : ∀ {l : List (List UInt8)}, (∀ s ∈ l, s.length = 32) → dig32 l = true := fun {l} h => by
  unfold dig32
  rw [List.all_eq_true]
  intro s hs
  simpa using h s hs
theorem pkN_ok {l : List (List UInt8)} (h : l.length ≤ 1024) : peaksB (l.length : Int) (pkN l) = true := by
  unfold peaksB
  rw [show dig32 (pkN l) = true from dig32_of (pkF_32 12 l), Int.toNat_natCast, decide_eq_true (show (0 : Int) ≤ (l.length : Int) by omega), decide_eq_true (show (l.length : Int) ≤ 1024 by omega), decide_eq_true (show (pkN l).length = onesN l.length from pkF_length 12 l (by omega))]
  rfl
theorem pkN_add {l : List (List UInt8)} (s : List UInt8) (h : l.length < 1024) : addL l.length (pkN l) s = pkN (l ++ [s]) := (pkF_add s 12 (by omega) l (by omega)).2
theorem pkN_top {l : List (List UInt8)} (h0 : l ≠ []) (h : l.length ≤ 1024) : topL (pkN l) = rootL l := pkF_top 12 (by omega) l h0 (by omega)
theorem pkN_le {l : List (List UInt8)} (h : l.length ≤ 1024) : (pkN l).length ≤ 12 := by
  rw [show (pkN l).length = onesN l.length from pkF_length 12 l (by omega)]
  exact onesF_le 12 _
end Go.Proofs.YtfnlehnhcekpkaaDoor

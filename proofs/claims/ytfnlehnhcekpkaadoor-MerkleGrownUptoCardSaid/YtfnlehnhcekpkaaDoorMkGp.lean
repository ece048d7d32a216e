/- Paths show their texts, growths show what grew, and no other number of digests does. No program in sight. Conditions: at most 2^40 texts. -/
import Derived.Test.YtfnlehnhcekpkaaDoorMkPk
import Derived.Test.YtfnlehnhcekpkaaDoorMkGr
import Derived.Test.YtfnlehnhcekpkaaDoorMkTot
set_option linter.unusedVariables false
set_option linter.unusedSimpArgs false
namespace Go.Proofs.YtfnlehnhcekpkaaDoor
open Go Go.RowKit
set_option maxRecDepth 100000

/-- The half of a number is a power of two. -/
theorem halfN_is {n : Nat} (h2 : 2 ≤ n) (h : n ≤ 1099511627776) : ∃ f, halfN n = 2 ^ f ∧ 2 ^ f < n ∧ n ≤ 2 ^ (f + 1) := by
  obtain ⟨a, b, c⟩ := halfN_fits h2 h
  refine ⟨Lib.bitLen (n - 1) - 1, rfl, b, ?_⟩
  rw [Nat.pow_succ]
  have : halfN n = 2 ^ (Lib.bitLen (n - 1) - 1) := rfl
  omega
theorem halfN_between {n k : Nat} (h2 : 2 ≤ n) (h : n ≤ 1099511627776) (h1 : halfN n < k) (h3 : k ≤ n) : halfN k = halfN n := by
  obtain ⟨f, e, a, b⟩ := halfN_is h2 h
  rw [e] at h1 ⊢
  exact halfN_pow h1 (by omega) (by omega)
theorem rootL_seg {l : List (List UInt8)} {a n : Nat} (h2 : 2 ≤ n) (h : n ≤ 1099511627776) (hl : a + n ≤ l.length) : rootL (seg l a n) = nodeL (rootL (seg l a (halfN n))) (rootL (seg l (a + halfN n) (n - halfN n))) := by
  obtain ⟨p, q, r⟩ := halfN_fits h2 h
  have hs := seg_length hl
  rw [rootL_two (by omega) (by omega), hs, seg_take (by omega), seg_drop]
theorem upL_snoc : ∀ (ps : List (List UInt8)) (bs : List Bool) (x p : List UInt8) (b : Bool), ps.length = bs.length → upL x (ps ++ [p]) (bs ++ [b]) = shaL (joinL (upL x ps bs) p b)
  | [], [], x, p, b, _ => rfl
  | q :: ps, c :: bs, x, p, b, h => by
    rw [List.cons_append, List.cons_append, upL, upL]
    exact upL_snoc ps bs _ p b (by simpa using h)
theorem twoL_snoc : ∀ (g : List (List UInt8)) (I : List Bool) (a b s : List UInt8) (r : Bool), g.length = I.length → twoL a b (g ++ [s]) (I ++ [r]) = if r then (nodeL s (twoL a b g I).1, nodeL s (twoL a b g I).2) else ((twoL a b g I).1, nodeL (twoL a b g I).2 s)
  | [], [], a, b, s, r, _ => by cases r <;> rfl
  | q :: g, c :: I, a, b, s, r, h => by
    rw [List.cons_append, List.cons_append, twoL, twoL]
    cases c
    · exact twoL_snoc g I a (nodeL b q) s r (by simpa using h)
    · exact twoL_snoc g I (nodeL q a) (nodeL q b) s r (by simpa using h)
theorem path_shows (l : List (List UInt8)) (hl : l.length ≤ 1099511627776) : ∀ (f a n i : Nat), n ≤ f → a ≤ i → i < a + n → a + n ≤ l.length → ∀ (hi : i < l.length),
    (pathD l a n i).length = (downL (i - a) n).length ∧ (∀ s ∈ pathD l a n i, s.length = 32) ∧ upL (leafL l[i]) (pathD l a n i).reverse (downL (i - a) n).reverse = rootL (seg l a n) := by
  intro f
  induction f with
  | zero => intro a n i hf h1 h2; omega
  | succ f ih =>
    intro a n i hf h1 h2 h3 hi
    by_cases hn : n ≤ 1
    · obtain rfl : n = 1 := by omega
      obtain rfl : i = a := by omega
      rw [pathD_one (Nat.le_refl _), downL_one (Nat.le_refl _), seg_one hi]
      exact ⟨rfl, (fun s hs => by cases hs), rfl⟩
    · obtain ⟨p, q, r⟩ := halfN_fits (n := n) (by omega) (by omega)
      have hrs := rootL_seg (l := l) (a := a) (n := n) (by omega) (by omega) h3
      by_cases hc : i < a + halfN n
      · obtain ⟨e1, e2, e3⟩ := ih a (halfN n) i (by omega) h1 hc (by omega) hi
        rw [pathD_left (by omega) (by omega) hc, downL_left (by omega) (by omega) (by omega)]
        refine ⟨by rw [List.length_cons, List.length_cons, e1], fun s hs => ?_, ?_⟩
        · rcases List.mem_cons.1 hs with rfl | hs
          · exact rootL_len _
          · exact e2 s hs
        · rw [List.reverse_cons, List.reverse_cons, upL_snoc _ _ _ _ _ (by rw [List.length_reverse, List.length_reverse, e1]), e3, hrs]
          rfl
      · obtain ⟨e1, e2, e3⟩ := ih (a + halfN n) (n - halfN n) i (by omega) (by omega) (by omega) (by omega) hi
        rw [show i - (a + halfN n) = i - a - halfN n by omega] at e1 e3
        rw [pathD_right (by omega) (by omega) hc, downL_right (by omega) (by omega) (by omega)]
        refine ⟨by rw [List.length_cons, List.length_cons, e1], fun s hs => ?_, ?_⟩
        · rcases List.mem_cons.1 hs with rfl | hs
          · exact rootL_len _
          · exact e2 s hs
        · rw [List.reverse_cons, List.reverse_cons, upL_snoc _ _ _ _ _ (by rw [List.length_reverse, List.length_reverse, e1]), e3, hrs]
          rfl
theorem pathD_short (l : List (List UInt8)) : ∀ (f a n i : Nat), n ≤ 2 ^ f → n ≤ 1099511627776 → (pathD l a n i).length ≤ f := by
  intro f
  induction f with
  | zero => intro a n i h _; rw [pathD_one (by simpa using h)]; simp
  | succ f ih =>
    intro a n i h h40
    by_cases hn : n ≤ 1
    · rw [pathD_one hn]; simp
    · obtain ⟨p, q, r⟩ := halfN_fits (n := n) (by omega) h40
      obtain ⟨k, e, k1, k2⟩ := halfN_is (n := n) (by omega) h40
      have hk : k ≤ f := by
        rcases Nat.lt_or_ge f k with h' | h'
        · have := Nat.pow_le_pow_right (show 0 < 2 by omega) (show f + 1 ≤ k by omega)
          omega
        · exact h'
      have hkf := Nat.pow_le_pow_right (show 0 < 2 by omega) hk
      by_cases hc : i < a + halfN n
      · rw [pathD_left (by omega) h40 hc, List.length_cons]
        have := ih a (halfN n) i (by omega) (by omega)
        omega
      · rw [pathD_right (by omega) h40 hc, List.length_cons]
        have := ih (a + halfN n) (n - halfN n) i (by omega) (by omega)
        omega
/-- A path shows its text. -/
theorem shows_own {l : List (List UInt8)} {i : Nat} (hl : l.length ≤ 1024) (hi : i < l.length) : showsB (rootL l) l[i] (i : Int) (l.length : Int) (pathV l (i : Int)) = true := by
  obtain ⟨e1, e2, e3⟩ := path_shows l (by omega) l.length 0 l.length i (Nat.le_refl _) (by omega) (by omega) (by omega) hi
  rw [seg_all] at e3
  have hp : pathV l (i : Int) = (pathD l 0 l.length i).reverse := by unfold pathV; rw [if_neg (by omega), Int.toNat_natCast]
  have hd : dig32 (pathD l 0 l.length i).reverse = true := dig32_of (fun s hs => e2 s (List.mem_reverse.1 hs))
  unfold showsB
  rw [hp, hd, if_neg (by simp; omega), Int.toNat_natCast, Int.toNat_natCast, List.length_reverse]
  rw [Nat.sub_zero] at e1 e3
  rw [if_neg (by rw [e1]; simp), e3, beq_self_eq_true]
theorem grow_shows (l : List (List UInt8)) (hl : l.length ≤ 1099511627776) : ∀ (f a n m : Nat), n ≤ f → a < m → m ≤ a + n → a + n ≤ l.length →
    ∃ U, growD l a n m = U ++ (if 0 < endL a n m then [rootL (seg l (endL a n m) (m - endL a n m))] else []) ∧ U.length = (inL a n m).length ∧ (∀ s ∈ U, s.length = 32) ∧
      twoL (rootL (seg l (endL a n m) (m - endL a n m))) (rootL (seg l (endL a n m) (m - endL a n m))) U.reverse (inL a n m).reverse = (rootL (seg l a (m - a)), rootL (seg l a n)) := by
  intro f
  induction f with
  | zero => intro a n m hf h1 h2; omega
  | succ f ih =>
    intro a n m hf h1 h2 h3
    by_cases he : a + n ≤ m
    · obtain ⟨i1, i2⟩ := inL_end he (by omega)
      rw [i1, i2, growD_end he (by omega), show m - a = n by omega]
      exact ⟨[], rfl, rfl, fun s hs => (by cases hs), rfl⟩
    · obtain ⟨p, q, r⟩ := halfN_fits (n := n) (by omega) (by omega)
      have hrs := rootL_seg (l := l) (a := a) (n := n) (by omega) (by omega) h3
      by_cases hc : a + halfN n < m
      · obtain ⟨i1, i2⟩ := inL_right (a := a) (n := n) (m := m) (by omega) h1 (by omega) hc
        obtain ⟨U, g1, g2, g3, g4⟩ := ih (a + halfN n) (n - halfN n) m (by omega) (by omega) (by omega) (by omega)
        rw [i1, i2, growD_right (by omega) h1 (by omega) (by omega), g1]
        refine ⟨_ :: U, rfl, by rw [List.length_cons, List.length_cons, g2], fun s hs => ?_, ?_⟩
        · rcases List.mem_cons.1 hs with rfl | hs
          · exact rootL_len _
          · exact g3 s hs
        · rw [List.reverse_cons, List.reverse_cons, twoL_snoc _ _ _ _ _ _ (by rw [List.length_reverse, List.length_reverse, g2]), g4, if_pos rfl, hrs]
          have hm := halfN_between (n := n) (k := m - a) (by omega) (by omega) (by omega) (by omega)
          rw [rootL_seg (l := l) (a := a) (n := m - a) (by omega) (by omega) (by omega), hm, show m - (a + halfN n) = m - a - halfN n by omega]
      · obtain ⟨i1, i2⟩ := inL_left (a := a) (n := n) (m := m) (by omega) h1 (by omega) hc
        obtain ⟨U, g1, g2, g3, g4⟩ := ih a (halfN n) m (by omega) h1 (by omega) (by omega)
        rw [i1, i2, growD_left (by omega) h1 (by omega) (by omega), g1]
        refine ⟨_ :: U, rfl, by rw [List.length_cons, List.length_cons, g2], fun s hs => ?_, ?_⟩
        · rcases List.mem_cons.1 hs with rfl | hs
          · exact rootL_len _
          · exact g3 s hs
        · rw [List.reverse_cons, List.reverse_cons, twoL_snoc _ _ _ _ _ _ (by rw [List.length_reverse, List.length_reverse, g2]), g4, if_neg (by simp), hrs]
theorem endB_len {old root a : List UInt8} {g : List (List UInt8)} {I : List Bool} (h : g.length ≠ I.length) : endB old root a g I = false := by
  unfold endB
  rw [if_pos h]
/-- What a growth of the first m texts is. -/
theorem growV_is {l : List (List UInt8)} {m : Nat} (hl : l.length ≤ 1099511627776) (h0 : 0 < m) (h1 : m < l.length) :
    ∃ U, growV l (m : Int) = (if 0 < endL 0 l.length m then [rootL (seg l (endL 0 l.length m) (m - endL 0 l.length m))] else []) ++ U ∧ U.length = (inL 0 l.length m).length ∧ (∀ s ∈ U, s.length = 32) ∧
      twoL (rootL (seg l (endL 0 l.length m) (m - endL 0 l.length m))) (rootL (seg l (endL 0 l.length m) (m - endL 0 l.length m))) U (inL 0 l.length m).reverse = (rootL (l.take m), rootL l) := by
  obtain ⟨U, g1, g2, g3, g4⟩ := grow_shows l hl l.length 0 l.length m (Nat.le_refl _) h0 (by omega) (by omega)
  rw [Nat.sub_zero, seg_all] at g4
  have ht : seg l 0 m = l.take m := by unfold seg; rw [List.drop_zero]
  rw [ht] at g4
  refine ⟨U.reverse, ?_, by rw [List.length_reverse, g2], fun s hs => g3 s (List.mem_reverse.1 hs), g4⟩
  unfold growV
  rw [if_neg (by omega), Int.toNat_natCast, g1, List.reverse_append]
  split <;> rfl
theorem grewB_front {old root : List UInt8} {m n : Nat} {g : List (List UInt8)} (h0 : 0 < m) (h1 : m < n) (h2 : n ≤ 1024) (hd : dig32 g = true) :
    grewB old root (m : Int) (n : Int) g = if 0 < endL 0 n m then (if g.length = 0 then false else endB old root (g.headD []) g.tail (inL 0 n m)) else endB old root old g (inL 0 n m) := by
  unfold grewB
  rw [hd, if_neg (by simp; omega), if_neg (by omega), if_neg (by omega), Int.toNat_natCast, Int.toNat_natCast]
theorem grewB_bad {old root : List UInt8} {m n : Int} {g : List (List UInt8)} (hd : dig32 g = false) : grewB old root m n g = false := by
  unfold grewB
  rw [if_pos (Or.inr (Or.inr (Or.inr hd)))]
/-- A growth shows that the texts grew; a digest more or fewer shows nothing. -/
theorem grown_all {l : List (List UInt8)} {m : Nat} (hl : l.length ≤ 1024) (hm : m ≤ l.length) :
    grewB (rootL (l.take m)) (rootL l) (m : Int) (l.length : Int) (growV l (m : Int)) = true ∧
    (∀ o, grewB (rootL (l.take m)) (rootL l) (m : Int) (l.length : Int) (growV l (m : Int) ++ [o]) = false) ∧
    (growV l (m : Int) ≠ [] → grewB (rootL (l.take m)) (rootL l) (m : Int) (l.length : Int) (growV l (m : Int)).tail = false) := by
  rcases Nat.eq_zero_or_pos m with rfl | h0
  · have hg : growV l ((0 : Nat) : Int) = [] := by unfold growV; rw [if_pos (by omega)]
    rw [hg, List.take_zero]
    refine ⟨?_, fun o => ?_, fun h => absurd rfl h⟩
    · unfold grewB
      rw [if_neg (by simp [dig32]; omega), if_pos (by rfl)]
      simp [rootL_nil]
    · unfold grewB
      split
      · rfl
      · rw [if_pos (by rfl)]
        simp
  rcases Nat.eq_or_lt_of_le hm with rfl | h1
  · have hg : growV l (l.length : Int) = [] := by unfold growV; rw [if_pos (by omega)]
    rw [hg, List.take_length]
    refine ⟨?_, fun o => ?_, fun h => absurd rfl h⟩
    · unfold grewB
      rw [if_neg (by simp [dig32]; omega), if_neg (by omega), if_pos rfl]
      simp
    · unfold grewB
      split
      · rfl
      · rw [if_neg (by omega), if_pos rfl]
        simp
  obtain ⟨U, u1, u2, u3, u4⟩ := growV_is (l := l) (m := m) (by omega) h0 h1
  obtain ⟨E, hE⟩ : ∃ E, E = endL 0 l.length m := ⟨_, rfl⟩
  obtain ⟨x, hx⟩ : ∃ x, x = rootL (seg l E (m - E)) := ⟨_, rfl⟩
  rw [← hE, ← hx] at u1 u4
  have hx32 : x.length = 32 := by rw [hx]; exact rootL_len _
  have hd : dig32 (growV l (m : Int)) = true := by
    rw [u1]
    refine dig32_of (fun s hs => ?_)
    rcases List.mem_append.1 hs with hs | hs
    · split at hs
      · rw [List.mem_singleton.1 hs]; exact hx32
      · cases hs
    · exact u3 s hs
  have hdt : dig32 (growV l (m : Int)).tail = true := by
    refine dig32_of (fun s hs => ?_)
    have h := hd
    unfold dig32 at h
    rw [List.all_eq_true] at h
    simpa using h s (List.mem_of_mem_tail hs)
  refine ⟨?_, fun o => ?_, fun hne => ?_⟩
  · rw [grewB_front h0 h1 hl hd, ← hE, u1]
    by_cases he : 0 < E
    · rw [if_pos he, if_pos he, if_neg (by simp)]
      show endB _ _ x U _ = true
      unfold endB
      rw [if_neg (by rw [u2]; simp), u4, beq_self_eq_true, beq_self_eq_true]
      rfl
    · rw [if_neg he, if_neg he, List.nil_append]
      obtain rfl : E = 0 := by omega
      have hxo : x = rootL (l.take m) := by rw [hx, Nat.sub_zero]; unfold seg; rw [List.drop_zero]
      unfold endB
      rw [if_neg (by rw [u2]; simp), ← hxo, u4, ← hxo, beq_self_eq_true, beq_self_eq_true]
      rfl
  · cases hdo : dig32 (growV l (m : Int) ++ [o]) with
    | false => exact grewB_bad hdo
    | true =>
      rw [grewB_front h0 h1 hl hdo, ← hE, u1]
      by_cases he : 0 < E
      · rw [if_pos he, if_pos he, if_neg (by simp)]
        refine endB_len ?_
        simp only [List.cons_append, List.nil_append, List.tail_cons, List.length_append, List.length_singleton, u2]
        omega
      · rw [if_neg he, if_neg he, List.nil_append]
        refine endB_len ?_
        simp only [List.length_append, List.length_singleton, u2]
        omega
  · rw [grewB_front h0 h1 hl hdt, ← hE]
    rw [u1] at hne ⊢
    by_cases he : 0 < E
    · rw [if_pos he, if_pos he]
      show (if U.length = 0 then false else endB _ _ _ U.tail _) = false
      split
      · rfl
      · refine endB_len ?_
        rw [List.length_tail, u2]
        omega
    · rw [if_neg he] at hne ⊢
      rw [if_neg he, List.nil_append] at *
      have := List.length_pos_iff.2 hne
      refine endB_len ?_
      rw [List.length_tail, u2]
      omega
end Go.Proofs.YtfnlehnhcekpkaaDoor

/- The digest's laws for texts behind one another. No conditions. -/
import Derived.Test.YtfnlehnhcekpkaaDoorShaSum
set_option linter.unusedVariables false
set_option linter.unusedSimpArgs false
namespace Go.Proofs.YtfnlehnhcekpkaaDoor
open Go Go.RowKit Go.BigFrame
set_option maxRecDepth 100000

theorem by_app (l m : List UInt8) (i : Nat) (h : i < l.length) : by_ (l ++ m) i = by_ l i := by
  unfold by_
  rw [List.getD_eq_getElem?_getD, List.getD_eq_getElem?_getD, List.getElem?_append_left h]
theorem word_app (l m : List UInt8) (k : Nat) (h : 4 * k + 3 < l.length) : word (l ++ m) k = word l k := by
  unfold word
  rw [by_app _ _ _ (by omega), by_app _ _ _ (by omega), by_app _ _ _ (by omega), by_app _ _ _ (by omega)]
theorem sched_app (l m : List UInt8) (h : 64 ≤ l.length) : ∀ k, sched (l ++ m) k = sched l k
  | 0 => rfl
  | k + 1 => by
    rw [sched, sched, sched_app l m h k]
    by_cases hk : k < 16
    · rw [if_pos hk, if_pos hk, word_app _ _ _ (by omega)]
    · rw [if_neg hk, if_neg hk]
theorem blk_app (hs : List Int) (l m : List UInt8) (h : 64 ≤ l.length) : blk hs (l ++ m) = blk hs l := by
  unfold blk
  rw [sched_app l m h]
theorem more_app_n : ∀ (n : Nat) (hs : List Int) (l m : List UInt8), l.length ≤ n → more hs (l ++ m) = more (more hs l).1 ((more hs l).2 ++ m) := by
  intro n
  induction n with
  | zero => intro hs l m h; rw [more_short hs l (by omega)]
  | succ n ih =>
    intro hs l m h
    by_cases hl : l.length < 64
    · rw [more_short hs l hl]
    · rw [more_long hs (l ++ m) (by simp; omega), more_long hs l (by omega), blk_app _ _ _ (by omega), List.drop_append_of_le_length (by omega)]
      exact ih _ _ _ (by simp; omega)
theorem more_app (hs : List Int) (l m : List UInt8) : more hs (l ++ m) = more (more hs l).1 ((more hs l).2 ++ m) := more_app_n _ hs l m (Nat.le_refl _)
theorem more_tail_n : ∀ (n : Nat) (hs : List Int) (l : List UInt8), l.length ≤ n → ∃ k, k ≤ l.length ∧ (more hs l).2 = l.drop k := by
  intro n
  induction n with
  | zero => intro hs l h; exact ⟨0, by omega, by rw [more_short hs l (by omega)]; rfl⟩
  | succ n ih =>
    intro hs l h
    by_cases hl : l.length < 64
    · exact ⟨0, by omega, by rw [more_short hs l hl]; rfl⟩
    · obtain ⟨k, hk, he⟩ := ih (blk hs l) (l.drop 64) (by simp; omega)
      rw [List.length_drop] at hk
      exact ⟨64 + k, by omega, by rw [more_long hs l (by omega), he, List.drop_drop]⟩
theorem more_tail (hs : List Int) (l : List UInt8) : (more hs l).2 = l.drop (l.length - (more hs l).2.length) := by
  obtain ⟨k, hk, he⟩ := more_tail_n _ hs l (Nat.le_refl _)
  rw [he, List.length_drop]
  congr 1
  omega
theorem more_two (hs : List Int) (l : List UInt8) : (more hs l).2.length < 64 := by
  rw [more_rest _ _ _ (Nat.le_refl _)]
  omega
theorem ten_cells {w : World} {g : Nat} {t : TypeId} {v0 v1 v2 v3 v4 v5 v6 v7 v8 v9 : Value} (h : IsBlk w g #[v0, v1, v2, v3, v4, v5, v6, v7, v8, v9] t) :
    w.cell? ⟨g, 0, none⟩ = some v0 ∧ w.cell? ⟨g, 1, none⟩ = some v1 ∧ w.cell? ⟨g, 2, none⟩ = some v2 ∧ w.cell? ⟨g, 3, none⟩ = some v3 ∧ w.cell? ⟨g, 4, none⟩ = some v4 ∧ w.cell? ⟨g, 5, none⟩ = some v5 ∧ w.cell? ⟨g, 6, none⟩ = some v6 ∧ w.cell? ⟨g, 7, none⟩ = some v7 ∧ w.cell? ⟨g, 8, none⟩ = some v8 ∧ w.cell? ⟨g, 9, none⟩ = some v9 :=
  ⟨h.cell rfl, h.cell rfl, h.cell rfl, h.cell rfl, h.cell rfl, h.cell rfl, h.cell rfl, h.cell rfl, h.cell rfl, h.cell rfl⟩
theorem ten_set {w : World} {g : Nat} {t : TypeId} {v0 v1 v2 v3 v4 v5 v6 v7 v8 v9 : Value} (h : IsBlk w g #[v0, v1, v2, v3, v4, v5, v6, v7, v8, v9] t) (u0 u1 u2 u3 u4 u5 u6 u7 u8 u9 : Value) :
    IsBlk ((((((((((w.setCell ⟨g, 0, none⟩ u0).setCell ⟨g, 1, none⟩ u1).setCell ⟨g, 2, none⟩ u2).setCell ⟨g, 3, none⟩ u3).setCell ⟨g, 4, none⟩ u4).setCell ⟨g, 5, none⟩ u5).setCell ⟨g, 6, none⟩ u6).setCell ⟨g, 7, none⟩ u7).setCell ⟨g, 8, none⟩ u8).setCell ⟨g, 9, none⟩ u9) g #[u0, u1, u2, u3, u4, u5, u6, u7, u8, u9] t := by
  have := (((((((((h.set 0 u0).set 1 u1).set 2 u2).set 3 u3).set 4 u4).set 5 u5).set 6 u6).set 7 u7).set 8 u8).set 9 u9
  simpa using this
theorem ten_other {w : World} {g g' : Nat} {t : TypeId} {cs : Array Value} (h : IsBlk w g' cs t) (hne : g' ≠ g) (u0 u1 u2 u3 u4 u5 u6 u7 u8 u9 : Value) :
    IsBlk ((((((((((w.setCell ⟨g, 0, none⟩ u0).setCell ⟨g, 1, none⟩ u1).setCell ⟨g, 2, none⟩ u2).setCell ⟨g, 3, none⟩ u3).setCell ⟨g, 4, none⟩ u4).setCell ⟨g, 5, none⟩ u5).setCell ⟨g, 6, none⟩ u6).setCell ⟨g, 7, none⟩ u7).setCell ⟨g, 8, none⟩ u8).setCell ⟨g, 9, none⟩ u9) g' cs t := by
  iterate 10 refine IsBlk.set_other ?_ (by simpa using hne.symm) _
  exact h
theorem ten_below {B g : Nat} {w0 w : World} (h : Below B w0 w) (hb : B ≤ g) (u0 u1 u2 u3 u4 u5 u6 u7 u8 u9 : Value) :
    Below B w0 ((((((((((w.setCell ⟨g, 0, none⟩ u0).setCell ⟨g, 1, none⟩ u1).setCell ⟨g, 2, none⟩ u2).setCell ⟨g, 3, none⟩ u3).setCell ⟨g, 4, none⟩ u4).setCell ⟨g, 5, none⟩ u5).setCell ⟨g, 6, none⟩ u6).setCell ⟨g, 7, none⟩ u7).setCell ⟨g, 8, none⟩ u8).setCell ⟨g, 9, none⟩ u9) := by
  iterate 10 refine below_set ?_ hb
  exact h
end Go.Proofs.YtfnlehnhcekpkaaDoor

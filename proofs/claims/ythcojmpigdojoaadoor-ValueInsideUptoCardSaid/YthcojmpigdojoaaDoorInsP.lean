/- What is right stays right further out, and further in but for the depth; a list of one value. No conditions. -/
import Derived.Test.YthcojmpigdojoaaDoorGetV
import Derived.Test.YthcojmpigdojoaaDoorOrd
set_option linter.unusedVariables false
set_option linter.unusedSimpArgs false
namespace Go.Proofs.YthcojmpigdojoaaDoor
open Go Go.RowKit

theorem why0_split (d : Nat) (k : Int) (b : Bool) (n : Int) (s : List UInt8) (ll lf : Nat) : ∃ a : Int, ∀ d, why0 d k b n s ll lf = orE a (unlessE (!(k == 5 || k == 6) || decide ((d : Int) < 6)) 10) := by
  refine ⟨firstE [unlessE (decide (k < 7) && bareB k b n s ll lf) 5, unlessE (decide ((s.length : Int) ≤ 1024)) 4, unlessE (!(k == 3) || Lib.validD s) 9, unlessE (decide (max (ll : Int) (lf : Int) ≤ 64)) 3], fun d => ?_⟩
  unfold why0
  simp only [firstE, orE]
  repeat' split
  all_goals first | rfl | simp_all
theorem unless_10 (b : Bool) : unlessE b 10 = 0 ∨ unlessE b 10 = 10 := by
  cases b
  · exact .inr rfl
  · exact .inl rfl
theorem why0_up (d : Nat) (k : Int) (b : Bool) (n : Int) (s : List UInt8) (ll lf : Nat) :
    (why0 (d + 1) k b n s ll lf = 0 → why0 d k b n s ll lf = 0) ∧ (why0 d k b n s ll lf = 0 → why0 (d + 1) k b n s ll lf = 0 ∨ why0 (d + 1) k b n s ll lf = 10) := by
  obtain ⟨a, ha⟩ := why0_split d k b n s ll lf
  rw [ha, ha]
  refine ⟨fun h => ?_, fun h => ?_⟩
  · obtain ⟨h1, h2⟩ := orE_0 h
    have h3 := unlessE_0 (by decide) h2
    rw [h1]
    by_cases hk : (k == 5 || k == 6) = true
    · rw [hk] at h3 ⊢
      have h4 : ((d + 1 : Nat) : Int) < 6 := by simpa using h3
      have h5 : decide ((d : Int) < 6) = true := by simp; omega
      rw [h5]; rfl
    · rw [show (k == 5 || k == 6) = false by simpa using hk]; rfl
  · obtain ⟨h1, h2⟩ := orE_0 h
    rw [h1]
    exact unless_10 _
theorem orE_10 {a b : Int} (ha : a = 0 ∨ a = 10) (hb : b = 0 ∨ b = 10) : orE a b = 0 ∨ orE a b = 10 := by
  rcases ha with rfl | rfl
  · exact hb
  · exact .inr rfl
mutual
theorem chk_up : ∀ (v : DVal) (d : Nat), (checkV (d + 1) v = 0 → checkV d v = 0) ∧ (checkV d v = 0 → checkV (d + 1) v = 0 ∨ checkV (d + 1) v = 10)
  | .mk k b n s l f, d => by
    rw [checkV, checkV]
    obtain ⟨w1, w2⟩ := why0_up d k b n s l.length f.length
    obtain ⟨l1, l2⟩ := chkL_up l (d + 1)
    obtain ⟨f1, f2⟩ := chkF_up f (d + 1) []
    refine ⟨fun h => ?_, fun h => ?_⟩
    · obtain ⟨h1, h2⟩ := orE_0 h
      obtain ⟨h2, h3⟩ := orE_0 h2
      rw [w1 h1, l1 h2, f1 h3]; rfl
    · obtain ⟨h1, h2⟩ := orE_0 h
      obtain ⟨h2, h3⟩ := orE_0 h2
      exact orE_10 (w2 h1) (orE_10 (l2 h2) (f2 h3))
theorem chkL_up : ∀ (l : List DVal) (d : Nat), (checkL (d + 1) l = 0 → checkL d l = 0) ∧ (checkL d l = 0 → checkL (d + 1) l = 0 ∨ checkL (d + 1) l = 10)
  | [], d => ⟨fun _ => rfl, fun _ => .inl rfl⟩
  | v :: l, d => by
    rw [checkL, checkL]
    obtain ⟨w1, w2⟩ := chk_up v d
    obtain ⟨l1, l2⟩ := chkL_up l d
    refine ⟨fun h => ?_, fun h => ?_⟩
    · obtain ⟨h1, h2⟩ := orE_0 h
      rw [w1 h1, l1 h2]; rfl
    · obtain ⟨h1, h2⟩ := orE_0 h
      exact orE_10 (w2 h1) (l2 h2)
theorem chkF_up : ∀ (f : List (List UInt8 × DVal)) (d : Nat) (x : List UInt8), (checkF (d + 1) x f = 0 → checkF d x f = 0) ∧ (checkF d x f = 0 → checkF (d + 1) x f = 0 ∨ checkF (d + 1) x f = 10)
  | [], d, _ => ⟨fun _ => rfl, fun _ => .inl rfl⟩
  | (y, v) :: f, d, x => by
    rw [checkF, checkF]
    obtain ⟨w1, w2⟩ := chk_up v d
    obtain ⟨l1, l2⟩ := chkF_up f d y
    refine ⟨fun h => ?_, fun h => ?_⟩
    · obtain ⟨h1, h2⟩ := orE_0 h
      obtain ⟨h2, h3⟩ := orE_0 h2
      rw [h1, w1 h2, l1 h3]; rfl
    · obtain ⟨h1, h2⟩ := orE_0 h
      obtain ⟨h2, h3⟩ := orE_0 h2
      rw [h1]
      exact orE_10 (.inl rfl) (orE_10 (w2 h2) (l2 h3))
end
theorem chk_list1 (v : DVal) : checkV 0 (.mk 5 false 0 [] [v] []) = checkV 1 v := by
  rw [checkV, checkL, checkL, checkF, orE_r, orE_r]
  have h : why0 0 ((5 : Nat) : Int) false 0 [] [v].length ([] : List (List UInt8 × DVal)).length = 0 := by
    show why0 0 5 false 0 [] 1 0 = 0
    decide +kernel
  rw [h]
  rfl
theorem get_list1 (v : DVal) (path : List (List UInt8)) : getV (.mk 5 false 0 [] [v] []) ([48] :: path) = getV v path := by
  have h2 : placeN [48] 1 = some 0 := by decide +kernel
  rw [getV, if_neg (by decide), if_pos rfl]
  show (match placeN [48] 1 with | some i => _ | none => _) = _
  rw [h2]
  rfl
/-- What a value's answer and that of a list of it may be. -/
theorem chk_both (v : DVal) : (checkV 0 v ≠ 0 → checkV 1 v ≠ 0) ∧ (checkV 0 v = 0 → checkV 1 v = 0 ∨ checkV 1 v = 10) :=
  ⟨fun h h' => h ((chk_up v 0).1 h'), (chk_up v 0).2⟩
end Go.Proofs.YthcojmpigdojoaaDoor

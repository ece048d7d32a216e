/- cmp.Compare of numbers and texts, cmp.Or of two. No conditions. -/
import Derived.Test.YthcojmpigdojoaaDoorVal
import Derived.Test.YthcojmpigdojoaaDoorStr
import Derived.WalkKit
import Derived.WalkSpells
import Derived.WalkLawsBesides
import Derived.Outline
import Derived.BigQuiet
import Derived.BigRegion
import Derived.Deep.DeepCutAuto
import Derived.Lib.Hide
import Derived.Below
import Derived.Test.YthcojmpigdojoaaDoorPush
set_option linter.unusedVariables false
set_option linter.unusedSimpArgs false
namespace Go.Proofs.YthcojmpigdojoaaDoor
open Go Go.RowKit Go.BigFrame
set_option maxRecDepth 100000

/-- How two numbers, two texts stand to each other. -/
def cmpI (a b : Int) : Int := if a < b then -1 else if b < a then 1 else 0
def cmpS (x y : List UInt8) : Int := if Op.bytesLess x y then -1 else if Op.bytesLess y x then 1 else 0
/-- The first that is not zero. -/
def orC (a b : Int) : Int := if a = 0 then b else a
theorem isNaN_kind_any (a : Int) (w : World) : Calls Tryd.prog 67 #[.int .u8 a] w fun e' w' => e' = .returned (.bool false) ∧ w = w' := by
  have h : (a != a) = false := by simp
  go_enter Tryd.func67, Tryd.ntmps67
  go_wp2
  go_ret
  exact ⟨rfl, rfl⟩
theorem cmp_kind_any (a b : Int) (w : World) : Calls Tryd.prog 38 #[.int .u8 a, .int .u8 b] w fun e' w' => e' = .returned (.int .i64 (cmpI a b)) ∧ w = w' := by
  obtain ⟨R, hR⟩ : ∃ R, R = cmpI a b := ⟨_, rfl⟩
  rw [← hR]
  have hc : (a < b ∧ R = -1) ∨ (b < a ∧ R = 1) ∨ (a = b ∧ R = 0) := by
    rw [hR, cmpI]
    rcases Int.lt_trichotomy a b with h | h | h
    · left; exact ⟨h, if_pos h⟩
    · right; right; exact ⟨h, by rw [if_neg (by omega), if_neg (by omega)]⟩
    · right; left; exact ⟨h, by rw [if_neg (by omega), if_pos h]⟩
  clear hR
  rcases hc with ⟨hc, hR⟩ | ⟨hc, hR⟩ | ⟨hc, hR⟩
  all_goals
    have HR := Lib.hid hR
    clear hR
  · go_enter Tryd.func38, Tryd.ntmps38
    go_wp2_with (go_at_call 67; refine (isNaN_kind_any _ _).mono ?_; rintro e' w' ⟨rfl, rfl⟩)
    go_ret
    exact ⟨by rw [HR.out]; rfl, rfl⟩
  · go_enter Tryd.func38, Tryd.ntmps38
    go_wp2_with (go_at_call 67; refine (isNaN_kind_any _ _).mono ?_; rintro e' w' ⟨rfl, rfl⟩)
    go_ret
    exact ⟨by rw [HR.out]; rfl, rfl⟩
  · subst hc
    go_enter Tryd.func38, Tryd.ntmps38
    go_wp2_with (go_at_call 67; refine (isNaN_kind_any _ _).mono ?_; rintro e' w' ⟨rfl, rfl⟩)
    go_ret
    exact ⟨by rw [HR.out]; rfl, rfl⟩
theorem isNaN_i64_any (a : Int) (w : World) : Calls Tryd.prog 68 #[.int .i64 a] w fun e' w' => e' = .returned (.bool false) ∧ w = w' := by
  have h : (a != a) = false := by simp
  go_enter Tryd.func68, Tryd.ntmps68
  go_wp2
  go_ret
  exact ⟨rfl, rfl⟩
theorem cmp_i64_any (a b : Int) (w : World) : Calls Tryd.prog 39 #[.int .i64 a, .int .i64 b] w fun e' w' => e' = .returned (.int .i64 (cmpI a b)) ∧ w = w' := by
  obtain ⟨R, hR⟩ : ∃ R, R = cmpI a b := ⟨_, rfl⟩
  rw [← hR]
  have hc : (a < b ∧ R = -1) ∨ (b < a ∧ R = 1) ∨ (a = b ∧ R = 0) := by
    rw [hR, cmpI]
    rcases Int.lt_trichotomy a b with h | h | h
    · left; exact ⟨h, if_pos h⟩
    · right; right; exact ⟨h, by rw [if_neg (by omega), if_neg (by omega)]⟩
    · right; left; exact ⟨h, by rw [if_neg (by omega), if_pos h]⟩
  clear hR
  rcases hc with ⟨hc, hR⟩ | ⟨hc, hR⟩ | ⟨hc, hR⟩
  all_goals
    have HR := Lib.hid hR
    clear hR
  · go_enter Tryd.func39, Tryd.ntmps39
    go_wp2_with (go_at_call 68; refine (isNaN_i64_any _ _).mono ?_; rintro e' w' ⟨rfl, rfl⟩)
    go_ret
    exact ⟨by rw [HR.out]; rfl, rfl⟩
  · go_enter Tryd.func39, Tryd.ntmps39
    go_wp2_with (go_at_call 68; refine (isNaN_i64_any _ _).mono ?_; rintro e' w' ⟨rfl, rfl⟩)
    go_ret
    exact ⟨by rw [HR.out]; rfl, rfl⟩
  · subst hc
    go_enter Tryd.func39, Tryd.ntmps39
    go_wp2_with (go_at_call 68; refine (isNaN_i64_any _ _).mono ?_; rintro e' w' ⟨rfl, rfl⟩)
    go_ret
    exact ⟨by rw [HR.out]; rfl, rfl⟩
theorem isNaN_str_any (a : ByteArray) (w : World) : Calls Tryd.prog 69 #[.string a] w fun e' w' => e' = .returned (.bool false) ∧ w = w' := by
  have h : (a.toList == a.toList) = true := beq_self_eq_true _
  go_enter Tryd.func69, Tryd.ntmps69
  go_wp2
  go_ret
  exact ⟨rfl, rfl⟩
theorem bytesLess_asymm : ∀ (x y : List UInt8), Op.bytesLess x y = true → Op.bytesLess y x = false
  | [], [], h => by simp [Op.bytesLess] at h
  | _ :: _, [], h => by simp [Op.bytesLess] at h
  | [], _ :: _, _ => by simp [Op.bytesLess]
  | a :: x, b :: y, h => by
    have ih := bytesLess_asymm x y
    simp only [Op.bytesLess] at h ih ⊢
    by_cases hab : a = b
    · subst hab; simp_all
    · by_cases h2 : a < b
      · have h3 : ¬ b < a := by simpa using UInt8.le_of_lt h2
        simp [Ne.symm hab, h3]
      · simp [hab, h2] at h
theorem bytesLess_irrefl : ∀ x : List UInt8, Op.bytesLess x x = false
  | [] => by simp [Op.bytesLess]
  | a :: x => by
    have ih := bytesLess_irrefl x
    simp only [Op.bytesLess] at ih ⊢
    simp [ih]
theorem bytesLess_conn : ∀ x y : List UInt8, Op.bytesLess x y = false → Op.bytesLess y x = false → x = y
  | [], [], _, _ => rfl
  | _ :: _, [], _, h => by simp [Op.bytesLess] at h
  | [], _ :: _, h, _ => by simp [Op.bytesLess] at h
  | a :: x, b :: y, h1, h2 => by
    have ih := bytesLess_conn x y
    simp only [Op.bytesLess] at ih h1 h2
    by_cases hab : a = b
    · subst hab
      simp at h1 h2
      rw [ih (by simpa using h1) (by simpa using h2)]
    · exfalso
      by_cases h3 : a < b
      · simp [hab, h3] at h1
      · have h4 : b < a := by
          rcases UInt8.lt_or_lt_of_ne hab with h5 | h5
          · exact absurd h5 h3
          · exact h5
        simp [Ne.symm hab, h4] at h2
theorem cmp_str_any (x y : List UInt8) (w : World) : Calls Tryd.prog 40 #[.string (bs x), .string (bs y)] w fun e' w' => e' = .returned (.int .i64 (cmpS x y)) ∧ w = w' := by
  obtain ⟨R, hR⟩ : ∃ R, R = cmpS x y := ⟨_, rfl⟩
  rw [← hR]
  rw [cmpS] at hR
  by_cases hp : Op.bytesLess x y = true
  · have h1 : Op.bytesLess (bs x).toList (bs y).toList = true := by rw [tl_bs, tl_bs, hp]
    have HR : Hid (R = -1) := Lib.hid (by rw [hR, if_pos hp])
    clear hR hp
    go_enter Tryd.func40, Tryd.ntmps40
    go_wp2_with (go_at_call 69; refine (isNaN_str_any _ _).mono ?_; rintro e' w' ⟨rfl, rfl⟩)
    go_ret
    exact ⟨by rw [HR.out]; rfl, rfl⟩
  · have hp2 : Op.bytesLess x y = false := by simpa using hp
    have h1 : Op.bytesLess (bs x).toList (bs y).toList = false := by rw [tl_bs, tl_bs, hp2]
    by_cases he : x = y
    · have h2 : ((bs x).toList == (bs y).toList) = true := by rw [tl_bs, tl_bs]; simpa using he
      have HR : Hid (R = 0) := Lib.hid (by rw [hR, if_neg hp, he, if_neg (by rw [bytesLess_irrefl]; decide)])
      clear hR hp hp2 he
      go_enter Tryd.func40, Tryd.ntmps40
      go_wp2_with (go_at_call 69; refine (isNaN_str_any _ _).mono ?_; rintro e' w' ⟨rfl, rfl⟩)
      go_ret
      exact ⟨by rw [HR.out]; rfl, rfl⟩
    · have h2 : ((bs x).toList == (bs y).toList) = false := by rw [tl_bs, tl_bs]; simpa using he
      have hq : Op.bytesLess y x = true := by
        cases h : Op.bytesLess y x
        · exact absurd (bytesLess_conn x y hp2 h) he
        · rfl
      have HR : Hid (R = 1) := Lib.hid (by rw [hR, if_neg hp, if_pos hq])
      clear hR hp hp2 he hq
      go_enter Tryd.func40, Tryd.ntmps40
      go_wp2_with (go_at_call 69; refine (isNaN_str_any _ _).mono ?_; rintro e' w' ⟨rfl, rfl⟩)
      go_ret
      exact ⟨by rw [HR.out]; rfl, rfl⟩
theorem or_any (g : Nat) (a b : Int) (t : TypeId) (w : World) (h : IsBlk w g #[.int .i64 a, .int .i64 b] t) :
    Calls Tryd.prog 72 #[.slice (some ⟨g, 0, none⟩) 2 2] w fun e' w' => e' = .returned (.int .i64 (orC a b)) ∧ w = w' := by
  obtain ⟨r, hr⟩ : ∃ r, r = orC a b := ⟨_, rfl⟩
  rw [← hr]
  have HR := Lib.hid hr; clear hr
  have H := Lib.hid h; clear h
  go_enter Tryd.func72, Tryd.ntmps72
  go_wp2
  go_loop [8] (fun i => ∃ k : Nat, i = .int .i64 k ∧ k ≤ 2 ∧ (k = 0 ∨ r = (if k = 1 then b else 0))) (fun i => 2 - (intOf i).toNat)
  case atStart => exact ⟨0, rfl, by omega, Or.inl rfl⟩
  case round =>
  obtain ⟨k, rfl, hk, hrd⟩ := hrel
  have HRD := Lib.hid hrd; clear hrd
  have hk3 : k = 0 ∨ k = 1 ∨ k = 2 := by omega
  clear hk
  rcases hk3 with rfl | rfl | rfl
  · have c0 := H.out.cell (i := 0) rfl
    by_cases hz : a = 0
    · have hr : r = b := by rw [HR.out, orC, if_pos hz]
      have HS := Lib.hid hr; clear hr
      subst hz
      go_wp2
      go_round
      case rel => exact ⟨1, rfl, by omega, Or.inr (by rw [HS.out]; rfl)⟩
      case measure => decide
    · have hr : r = a := by rw [HR.out, orC, if_neg hz]
      have HS := Lib.hid hr; clear hr
      have hzb : (a != 0) = true := by simpa using hz
      go_wp2
      go_ret
      exact ⟨by rw [HS.out]; rfl, rfl⟩
  · have c1 := H.out.cell (i := 1) rfl
    have hr : r = b := by rcases HRD.out with h | h; cases h; exact h
    have HS := Lib.hid hr; clear hr
    by_cases hz : b = 0
    · subst hz
      go_wp2
      go_round
      case rel => exact ⟨2, rfl, by omega, Or.inr (by rw [HS.out]; rfl)⟩
      case measure => decide
    · have hzb : (b != 0) = true := by simpa using hz
      go_wp2
      go_ret
      exact ⟨by rw [HS.out]; rfl, rfl⟩
  · have hr : r = 0 := by rcases HRD.out with h | h; cases h; exact h
    have HS := Lib.hid hr; clear hr
    go_wp2
    go_ret
    exact ⟨by rw [HS.out]; rfl, rfl⟩
end Go.Proofs.YthcojmpigdojoaaDoor

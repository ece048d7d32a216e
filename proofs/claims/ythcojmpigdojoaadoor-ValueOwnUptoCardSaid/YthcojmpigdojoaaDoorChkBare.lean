/- value.bare. No conditions. -/
import Derived.Test.YthcojmpigdojoaaDoorChkSmall
import Derived.Below
set_option linter.unusedVariables false
set_option linter.unusedSimpArgs false
namespace Go.Proofs.YthcojmpigdojoaaDoor
open Go Go.RowKit Go.BigFrame
set_option maxRecDepth 100000

def sel {α : Type} (c : Bool) (x d : α) : α := if c then x else d
theorem sel_t {α : Type} {c : Bool} {x d : α} (h : c = true) : sel c x d = x := by rw [sel, if_pos h]
theorem sel_f {α : Type} {c : Bool} {x d : α} (h : c = false) : sel c x d = d := by rw [sel, h]; rfl
set_option maxHeartbeats 1000000 in
theorem bare_any (k : Int) (b : Bool) (n : Int) (s : List UInt8) (pl : Option Addr) (ll cl : Nat) (pf : Option Addr) (lf cf : Nat) (w : World) :
    Calls Tryd.prog 61 #[.agg #[.int .u8 k, .bool b, .int .i64 n, .string (bs s), .slice pl ll cl, .slice pf lf cf]] w fun e' w' =>
      e' = .returned (.agg #[.int .u8 k, .bool (sel (k == 1) b false), .int .i64 (sel (k == 2) n 0), .string (bs (sel (k == 3 || k == 4) s [])), .slice (sel (k == 5) pl none) (sel (k == 5) ll 0) (sel (k == 5) cl 0), .slice (sel (k == 6) pf none) (sel (k == 6) lf 0) (sel (k == 6) cf 0)]) ∧ Below w.heap.size w w' := by
  obtain ⟨R, hR⟩ : ∃ R : Array Value, R = #[.int .u8 k, .bool (sel (k == 1) b false), .int .i64 (sel (k == 2) n 0), .string (bs (sel (k == 3 || k == 4) s [])), .slice (sel (k == 5) pl none) (sel (k == 5) ll 0) (sel (k == 5) cl 0), .slice (sel (k == 6) pf none) (sel (k == 6) lf 0) (sel (k == 6) cf 0)] := ⟨_, rfl⟩
  rw [← hR]
  have HR := Lib.hid hR; clear hR
  by_cases h1 : k = 1
  · subst h1
    go_enter Tryd.func61, Tryd.ntmps61
    go_wp2
    exact bodyPost_ret (v := .agg R) (by rw [HR.out]; simp [results, Tryd.results61, go_sem, sel, bs]) rfl ⟨rfl, (((Below.refl _ _).alloc (Nat.le_refl _) _).alloc (by simp) _).alloc (by simp; omega) _⟩
  · by_cases h2 : k = 2
    · subst h2
      go_enter Tryd.func61, Tryd.ntmps61
      go_wp2
      exact bodyPost_ret (v := .agg R) (by rw [HR.out]; simp [results, Tryd.results61, go_sem, sel, bs]) rfl ⟨rfl, (((Below.refl _ _).alloc (Nat.le_refl _) _).alloc (by simp) _).alloc (by simp; omega) _⟩
    · by_cases h3 : k = 3
      · subst h3
        go_enter Tryd.func61, Tryd.ntmps61
        go_wp2
        exact bodyPost_ret (v := .agg R) (by rw [HR.out]; simp [results, Tryd.results61, go_sem, sel, bs]) rfl ⟨rfl, (((Below.refl _ _).alloc (Nat.le_refl _) _).alloc (by simp) _).alloc (by simp; omega) _⟩
      · by_cases h4 : k = 4
        · subst h4
          go_enter Tryd.func61, Tryd.ntmps61
          go_wp2
          exact bodyPost_ret (v := .agg R) (by rw [HR.out]; simp [results, Tryd.results61, go_sem, sel, bs]) rfl ⟨rfl, (((Below.refl _ _).alloc (Nat.le_refl _) _).alloc (by simp) _).alloc (by simp; omega) _⟩
        · by_cases h5 : k = 5
          · subst h5
            go_enter Tryd.func61, Tryd.ntmps61
            go_wp2
            exact bodyPost_ret (v := .agg R) (by rw [HR.out]; simp [results, Tryd.results61, go_sem, sel, bs]) rfl ⟨rfl, (((Below.refl _ _).alloc (Nat.le_refl _) _).alloc (by simp) _).alloc (by simp; omega) _⟩
          · by_cases h6 : k = 6
            · subst h6
              go_enter Tryd.func61, Tryd.ntmps61
              go_wp2
              exact bodyPost_ret (v := .agg R) (by rw [HR.out]; simp [results, Tryd.results61, go_sem, sel, bs]) rfl ⟨rfl, (((Below.refl _ _).alloc (Nat.le_refl _) _).alloc (by simp) _).alloc (by simp; omega) _⟩
            · go_enter Tryd.func61, Tryd.ntmps61
              go_wp2
              exact bodyPost_ret (v := .agg R) (by rw [HR.out]; simp [results, Tryd.results61, go_sem, sel, bs, h1, h2, h3, h4, h5, h6]) rfl ⟨rfl, (((Below.refl _ _).alloc (Nat.le_refl _) _).alloc (by simp) _).alloc (by simp; omega) _⟩
end Go.Proofs.YthcojmpigdojoaaDoor

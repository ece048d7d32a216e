/- codicilref02: Name, zero, check, Check. Condition: the value lies in memory. -/
import Derived.Test.YthcojmpigdojoaaDoorRefUtf
import Derived.Test.YthcojmpigdojoaaDoorPush
set_option linter.unusedVariables false
set_option linter.unusedSimpArgs false
namespace Go.Proofs.YthcojmpigdojoaaDoor
open Go Go.RowKit Go.BigFrame
set_option maxRecDepth 100000

theorem ref_name_any (s : List UInt8) (w : World) (hs : s.length ≤ 1099511627776) :
    Calls Tryd.prog 66 #[.string (bs s)] w fun e' w' => e' = .returned (.int .i64 (nameE s)) ∧ Below w.heap.size w w' := by
  have hsz := bs_size s
  obtain ⟨r, hr⟩ : ∃ r, r = nameE s := ⟨_, rfl⟩
  rw [← hr]
  have HR := Lib.hid hr; clear hr
  by_cases h0 : s = []
  · have HR2 : Hid (r = 4) := Lib.hid (by rw [HR.out, nameE, if_pos (Or.inl h0)])
    have he : ((bs s).toList == ([] : List UInt8)) = true := by rw [tl_bs, h0]; rfl
    clear h0
    go_enter Tryd.func66, Tryd.ntmps66
    go_wp2
    go_ret
    exact ⟨by rw [HR2.out]; rfl, Below.refl _ _⟩
  · have he : ((bs s).toList == ([] : List UInt8)) = false := by rw [tl_bs]; simpa using h0
    by_cases hl : 1024 < s.length
    · have HR2 : Hid (r = 4) := Lib.hid (by rw [HR.out, nameE, if_pos (Or.inr hl)])
      have hlI : (1024 : Int) < (s.length : Int) := by omega
      clear h0
      go_enter Tryd.func66, Tryd.ntmps66
      go_wp2
      go_ret
      exact ⟨by rw [HR2.out]; rfl, Below.refl _ _⟩
    · have hlI : (s.length : Int) ≤ 1024 := by omega
      obtain ⟨v, hv⟩ : ∃ v, v = Lib.validD s := ⟨_, rfl⟩
      have HR2 : Hid (r = if v then 0 else 9) := Lib.hid (by rw [HR.out, nameE, if_neg (by simp [h0, hl]), hv])
      have HV := Lib.hid hv
      clear h0 hv
      go_enter Tryd.func66, Tryd.ntmps66
      go_wp2_with fail
      go_at_call 65
      refine (ref_utf_any s _ hs).mono ?_
      rintro e' w1 ⟨he', hb⟩
      rw [← HV.out] at he'
      subst he'
      have HB := Lib.hid hb; clear hb
      cases v
      all_goals
        go_wp2
        go_ret
        exact ⟨by rw [HR2.out]; rfl, HB.out⟩
theorem wi {P Q : Prop} (h : P) (hq : P → Q) : Q := hq h
/-- Whether a value has nothing but what its kind has. -/
def zeroB (k : Int) (b : Bool) (n : Int) (s : List UInt8) (ll lf : Nat) : Bool := decide (k < 7) && bareB k b n s ll lf
set_option maxHeartbeats 4000000 in
theorem ref_zero_any (k : Int) (b : Bool) (n : Int) (s : List UInt8) (pl : Option Addr) (ll cl : Nat) (pf : Option Addr) (lf cf : Nat) (w : World) (hk0 : 0 ≤ k) :
    Calls Tryd.prog 64 #[.agg #[.int .u8 k, .bool b, .int .i64 n, .string (bs s), .slice pl ll cl, .slice pf lf cf]] w fun e' w' => e' = .returned (.bool (zeroB k b n s ll lf)) ∧ Below w.heap.size w w' := by
  obtain ⟨R, hR⟩ : ∃ R, R = zeroB k b n s ll lf := ⟨_, rfl⟩
  rw [← hR]
  have HR := Lib.hid hR; clear hR
  have hk : k = 0 ∨ k = 1 ∨ k = 2 ∨ k = 3 ∨ k = 4 ∨ k = 5 ∨ k = 6 ∨ 7 ≤ k := by omega
  rcases hk with rfl | rfl | rfl | rfl | rfl | rfl | rfl | hk7
  case' inr.inr.inr.inr.inr.inr.inr =>
    have d1 : (k == 1) = false := by simp; omega
    have d2 : (k == 2) = false := by simp; omega
    have d3 : (k == 3) = false := by simp; omega
    have d4 : (k == 4) = false := by simp; omega
    have d5 : (k == 5) = false := by simp; omega
    have d6 : (k == 6) = false := by simp; omega
    have n1 : (k != 1) = true := by simp; omega
    have n2 : (k != 2) = true := by simp; omega
    have n3 : (k != 3) = true := by simp; omega
    have n4 : (k != 4) = true := by simp; omega
    have d7 : ¬ k < 7 := by omega
    have HR2 : Hid (R = false) := Lib.hid (by rw [HR.out, zeroB, decide_eq_false d7]; rfl)
  all_goals cases b
  all_goals first
  | (refine wi (P := Hid (R = false)) ?_ (fun HR2 => ?_)
     · refine Lib.hid ?_
       rw [HR.out]
       simp [zeroB, bareB, flatB, sel]
       done
     · go_enter Tryd.func64, Tryd.ntmps64
       go_wp2
       go_ret
       exact ⟨by rw [HR2.out]; rfl, (Below.refl _ _).alloc (Nat.le_refl _) _⟩)
  | skip
  all_goals by_cases hn : n = 0
  all_goals try subst hn
  all_goals first
  | (refine wi (P := Hid (R = false)) ?_ (fun HR2 => ?_)
     · refine Lib.hid ?_
       rw [HR.out]
       simp [zeroB, bareB, flatB, sel, *]
       done
     · go_enter Tryd.func64, Tryd.ntmps64
       go_wp2
       go_ret
       exact ⟨by rw [HR2.out]; rfl, (Below.refl _ _).alloc (Nat.le_refl _) _⟩)
  | skip
  all_goals
    refine (wi (P := (bs s).toList.isEmpty = false ∧ s ≠ [] ∨ (bs s).toList.isEmpty = true ∧ s = []) (by rw [tl_bs]; cases s <;> simp) ?_)
    rintro (⟨hne, hs⟩ | ⟨hne, hs⟩)
  all_goals first
  | (refine wi (P := Hid (R = false)) ?_ (fun HR2 => ?_)
     · refine Lib.hid ?_
       rw [HR.out]
       simp [zeroB, bareB, flatB, sel, hs, *]
       done
     · clear hs
       go_enter Tryd.func64, Tryd.ntmps64
       go_wp2
       go_ret
       exact ⟨by rw [HR2.out]; rfl, (Below.refl _ _).alloc (Nat.le_refl _) _⟩)
  | skip
  all_goals
    by_cases hll : ll = 0
  all_goals first
  | subst hll
  | (refine wi (P := ((ll : Int) == 0) = false) (by simp; omega) (fun hllI => ?_))
  all_goals first
  | (refine wi (P := Hid (R = false)) ?_ (fun HR2 => ?_)
     · refine Lib.hid ?_
       rw [HR.out]
       simp [zeroB, bareB, flatB, sel, hs, *]
       done
     · clear hs
       go_enter Tryd.func64, Tryd.ntmps64
       go_wp2
       go_ret
       exact ⟨by rw [HR2.out]; rfl, (Below.refl _ _).alloc (Nat.le_refl _) _⟩)
  | skip
  all_goals
    by_cases hlf : lf = 0
  all_goals first
  | subst hlf
  | (refine wi (P := ((lf : Int) == 0) = false) (by simp; omega) (fun hlfI => ?_))
  all_goals first
  | (refine wi (P := Hid (R = false)) ?_ (fun HR2 => ?_)
     · refine Lib.hid ?_
       rw [HR.out]
       simp [zeroB, bareB, flatB, sel, hs, *]
       done
     · clear hs
       go_enter Tryd.func64, Tryd.ntmps64
       go_wp2
       go_ret
       exact ⟨by rw [HR2.out]; rfl, (Below.refl _ _).alloc (Nat.le_refl _) _⟩)
  | skip
  all_goals first
  | (refine wi (P := Hid (R = true)) ?_ (fun HR2 => ?_)
     · refine Lib.hid ?_
       rw [HR.out]
       simp [zeroB, bareB, flatB, sel, hs, *]
       done
     · clear hs
       go_enter Tryd.func64, Tryd.ntmps64
       go_wp2
       go_ret
       exact ⟨by rw [HR2.out]; rfl, (Below.refl _ _).alloc (Nat.le_refl _) _⟩)
  | skip
end Go.Proofs.YthcojmpigdojoaaDoor

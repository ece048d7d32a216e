/- Small functions of package value: unless, first, flat, bare, name. Conditions: utf8's tables read as the text lays them. -/
import Derived.Test.YthcojmpigdojoaaDoorVal
import Derived.Test.YthcojmpigdojoaaDoorStr
import Derived.Test.YthcojmpigdojoaaDoorShelf
import Derived.WalkKit
import Derived.WalkSpells
import Derived.WalkLawsBesides
import Derived.Outline
import Derived.BigQuiet
import Derived.BigRegion
import Derived.Lib.ValidAsc
set_option linter.unusedVariables false
set_option linter.unusedSimpArgs false
namespace Go.Proofs.YthcojmpigdojoaaDoor
open Go Go.RowKit Go.BigFrame
set_option maxRecDepth 100000

/-- The tables of utf8 read as the text lays them. -/
def U8T (w : World) : Prop := Lib.Utf8Tabs (Tryd.laysValid_ren.g 3) (Tryd.laysValid_ren.g 4) w
theorem valid_any (s : ByteArray) (w : World) (hs : s.size ≤ 9223372036854775807) (hT : U8T w) :
    Calls Tryd.prog 62 #[.string s] w fun e' w' => e' = .returned (.bool (Lib.validD s.data.toList)) ∧ Below w.heap.size w w' := Any.utf8_ValidString Tryd.laysValid s w hs hT

def unlessE (b : Bool) (e : Int) : Int := if b then 0 else e
theorem unless_any (b : Bool) (e : Int) (w : World) : Calls Tryd.prog 60 #[.bool b, .int .i64 e] w fun e' w' => e' = .returned (.int .i64 (unlessE b e)) ∧ w = w' := by
  cases b
  all_goals
    go_enter Tryd.func60, Tryd.ntmps60
    go_wp2
    go_ret
    exact ⟨rfl, rfl⟩
/-- The first error of some. -/
def firstE : List Int → Int
  | [] => 0
  | e :: l => if e = 0 then firstE l else e
theorem firstE_drop {es : List Int} {k : Nat} (h : k < es.length) (hz : es[k] = 0) : firstE (es.drop k) = firstE (es.drop (k + 1)) := by
  rw [List.drop_eq_getElem_cons h, firstE, if_pos hz]
theorem firstE_at {es : List Int} {k : Nat} (h : k < es.length) (hz : es[k] ≠ 0) : firstE (es.drop k) = es[k] := by
  rw [List.drop_eq_getElem_cons h, firstE, if_neg hz]
theorem first_any (g : Nat) (es : List Int) (w : World) (hl : es.length ≤ 1000) (h : ∀ i (hi : i < es.length), w.cell? ⟨g, i, none⟩ = some (.int .i64 es[i])) :
    Calls Tryd.prog 59 #[.slice (some ⟨g, 0, none⟩) es.length es.length] w fun e' w' => e' = .returned (.int .i64 (firstE es)) ∧ w = w' := by
  obtain ⟨n, hn⟩ : ∃ n, n = es.length := ⟨_, rfl⟩
  rw [← hn] at hl ⊢
  have HN := Lib.hid hn; clear hn
  obtain ⟨r, hr⟩ : ∃ r, r = firstE es := ⟨_, rfl⟩
  rw [← hr]
  have HR := Lib.hid hr; clear hr
  have HC := Lib.hid h; clear h
  go_enter Tryd.func59, Tryd.ntmps59
  go_wp2
  go_loop [7] (fun i => ∃ k : Nat, i = .int .i64 k ∧ k ≤ n ∧ firstE (es.drop k) = r) (fun i => n - (intOf i).toNat)
  case atStart => exact ⟨0, rfl, by omega, HR.out.symm⟩
  case round =>
  obtain ⟨k, rfl, hk, hrd⟩ := hrel
  have HRD := Lib.hid hrd; clear hrd
  by_cases hlt : k < n
  · have hk2 : k < es.length := by rw [← HN.out]; exact hlt
    have hc := HC.out k hk2
    obtain ⟨v, hv⟩ : ∃ v, v = es[k] := ⟨_, rfl⟩
    rw [← hv] at hc
    have HV := Lib.hid hv; clear hv
    by_cases hz : v = 0
    · have HS := Lib.hid (firstE_drop hk2 (by rw [← HV.out]; exact hz))
      subst hz
      go_wp2
      go_round
      case rel => exact ⟨k + 1, by go_num, by omega, by rw [← HS.out]; exact HRD.out⟩
      case measure => simp [intOf]; omega
    · have HS := Lib.hid (firstE_at hk2 (by rw [← HV.out]; exact hz))
      go_wp2
      go_ret
      exact ⟨by rw [← HRD.out, HS.out, HV.out]; rfl, rfl⟩
  · have HS : Hid (r = 0) := Lib.hid (by rw [← HRD.out, List.drop_eq_nil_of_le (by rw [← HN.out]; omega)]; rfl)
    go_wp2
    go_ret
    exact ⟨by rw [HS.out]; rfl, rfl⟩
/-- Why a text may not be a field's name. -/
def nameE (s : List UInt8) : Int := if s = [] ∨ 1024 < s.length then 4 else if Lib.validD s then 0 else 9
theorem name_any (s : List UInt8) (w : World) (hs : s.length ≤ 281474976710656) (hT : U8T w) :
    Calls Tryd.prog 63 #[.string (bs s)] w fun e' w' => e' = .returned (.int .i64 (nameE s)) ∧ Below w.heap.size w w' := by
  have hsz := bs_size s
  have HT := Lib.hid hT; clear hT
  obtain ⟨r, hr⟩ : ∃ r, r = nameE s := ⟨_, rfl⟩
  rw [← hr]
  have HR := Lib.hid hr; clear hr
  by_cases h0 : s = []
  · have HR2 : Hid (r = 4) := Lib.hid (by rw [HR.out, nameE, if_pos (Or.inl h0)])
    have he : ((bs s).toList == ([] : List UInt8)) = true := by rw [tl_bs, h0]; rfl
    clear h0
    go_enter Tryd.func63, Tryd.ntmps63
    go_wp2
    go_ret
    exact ⟨by rw [HR2.out]; rfl, Below.refl _ _⟩
  · have he : ((bs s).toList == ([] : List UInt8)) = false := by rw [tl_bs]; simpa using h0
    by_cases hl : 1024 < s.length
    · have HR2 : Hid (r = 4) := Lib.hid (by rw [HR.out, nameE, if_pos (Or.inr hl)])
      have hlI : (1024 : Int) < (s.length : Int) := by omega
      clear h0
      go_enter Tryd.func63, Tryd.ntmps63
      go_wp2
      go_ret
      exact ⟨by rw [HR2.out]; rfl, Below.refl _ _⟩
    · have hlI : (s.length : Int) ≤ 1024 := by omega
      by_cases hv : Lib.validD s = true
      · have HR2 : Hid (r = 0) := Lib.hid (by rw [HR.out, nameE, if_neg (by simp [h0, hl]), if_pos hv])
        clear h0
        go_enter Tryd.func63, Tryd.ntmps63
        go_wp2_with fail
        go_at_call 62
        refine (valid_any _ _ (by omega) HT.out).mono ?_
        rintro e' w1 ⟨he', hb⟩
        rw [bs_toList, hv] at he'
        subst he'
        have HB := Lib.hid hb; clear hb hv
        go_wp2
        go_ret
        exact ⟨by rw [HR2.out]; rfl, HB.out⟩
      · have HR2 : Hid (r = 9) := Lib.hid (by rw [HR.out, nameE, if_neg (by simp [h0, hl]), if_neg hv])
        have hv2 : Lib.validD s = false := by simpa using hv
        clear h0 hv
        go_enter Tryd.func63, Tryd.ntmps63
        go_wp2_with fail
        go_at_call 62
        refine (valid_any _ _ (by omega) HT.out).mono ?_
        rintro e' w1 ⟨he', hb⟩
        rw [bs_toList, hv2] at he'
        subst he'
        have HB := Lib.hid hb; clear hb hv2
        go_wp2
        go_ret
        exact ⟨by rw [HR2.out]; rfl, HB.out⟩
/-- Whether two values are the same but for what their lists have. -/
def flatB (k : Int) (b : Bool) (n : Int) (s : List UInt8) (ll lf : Nat) (k' : Int) (b' : Bool) (n' : Int) (s' : List UInt8) (ll' lf' : Nat) : Bool :=
  decide (k = k' ∧ b = b' ∧ n = n' ∧ s = s' ∧ ll = ll' ∧ lf = lf')
set_option maxHeartbeats 1000000 in
theorem flat_any (k : Int) (b : Bool) (n : Int) (s : List UInt8) (pl : Option Addr) (ll cl : Nat) (pf : Option Addr) (lf cf : Nat) (k' : Int) (b' : Bool) (n' : Int) (s' : List UInt8) (pl' : Option Addr) (ll' cl' : Nat) (pf' : Option Addr) (lf' cf' : Nat) (w : World) :
    Calls Tryd.prog 45 #[.agg #[.int .u8 k, .bool b, .int .i64 n, .string (bs s), .slice pl ll cl, .slice pf lf cf], .agg #[.int .u8 k', .bool b', .int .i64 n', .string (bs s'), .slice pl' ll' cl', .slice pf' lf' cf']] w fun e' w' => e' = .returned (.bool (flatB k b n s ll lf k' b' n' s' ll' lf')) ∧ Below w.heap.size w w' := by
  obtain ⟨r, hr⟩ : ∃ r, r = flatB k b n s ll lf k' b' n' s' ll' lf' := ⟨_, rfl⟩
  rw [← hr]
  have HR := Lib.hid hr; clear hr
  by_cases h1 : k = k'
  · subst h1
    by_cases h2 : b = b'
    · subst h2
      by_cases h3 : n = n'
      · subst h3
        by_cases h4 : s = s'
        · subst h4
          by_cases h5 : ll = ll'
          · subst h5
            by_cases h6 : lf = lf'
            · subst h6
              have HR2 : Hid (r = true) := Lib.hid (by rw [HR.out]; simp [flatB])
              cases b
              all_goals
                go_enter Tryd.func45, Tryd.ntmps45
                go_wp2
                go_ret
                exact ⟨by rw [HR2.out]; rfl, ((Below.refl _ _).alloc (Nat.le_refl _) _).alloc (by simp) _⟩
            · have HR2 : Hid (r = false) := Lib.hid (by rw [HR.out]; simp [flatB, h6])
              have hI : ((lf : Int) == (lf' : Int)) = false := by simp; omega
              cases b
              all_goals
                go_enter Tryd.func45, Tryd.ntmps45
                go_wp2
                go_ret
                exact ⟨by rw [HR2.out]; rfl, ((Below.refl _ _).alloc (Nat.le_refl _) _).alloc (by simp) _⟩
          · have HR2 : Hid (r = false) := Lib.hid (by rw [HR.out]; simp [flatB, h5])
            have hI : ((ll : Int) == (ll' : Int)) = false := by simp; omega
            cases b
            all_goals
              go_enter Tryd.func45, Tryd.ntmps45
              go_wp2
              go_ret
              exact ⟨by rw [HR2.out]; rfl, ((Below.refl _ _).alloc (Nat.le_refl _) _).alloc (by simp) _⟩
        · have HR2 : Hid (r = false) := Lib.hid (by rw [HR.out]; simp [flatB, h4])
          have hI : ((bs s).toList == (bs s').toList) = false := by rw [tl_bs, tl_bs]; simpa using h4
          clear h4
          cases b
          all_goals
            go_enter Tryd.func45, Tryd.ntmps45
            go_wp2
            go_ret
            exact ⟨by rw [HR2.out]; rfl, ((Below.refl _ _).alloc (Nat.le_refl _) _).alloc (by simp) _⟩
      · have HR2 : Hid (r = false) := Lib.hid (by rw [HR.out]; simp [flatB, h3])
        cases b
        all_goals
          go_enter Tryd.func45, Tryd.ntmps45
          go_wp2
          go_ret
          exact ⟨by rw [HR2.out]; rfl, ((Below.refl _ _).alloc (Nat.le_refl _) _).alloc (by simp) _⟩
    · have HR2 : Hid (r = false) := Lib.hid (by rw [HR.out]; simp [flatB, h2])
      cases b <;> cases b' <;> first | (exact absurd rfl h2) | skip
      all_goals
        clear h2
        go_enter Tryd.func45, Tryd.ntmps45
        go_wp2
        go_ret
        exact ⟨by rw [HR2.out]; rfl, ((Below.refl _ _).alloc (Nat.le_refl _) _).alloc (by simp) _⟩
  · have HR2 : Hid (r = false) := Lib.hid (by rw [HR.out]; simp [flatB, h1])
    go_enter Tryd.func45, Tryd.ntmps45
    go_wp2
    go_ret
    exact ⟨by rw [HR2.out]; rfl, ((Below.refl _ _).alloc (Nat.le_refl _) _).alloc (by simp) _⟩
end Go.Proofs.YthcojmpigdojoaaDoor

/- sha.Sum: contract. Condition: the table of constants reads as the text lays it. -/
import Derived.Test.YtfnlehnhcekpkaaDoorShaEnd
set_option linter.unusedVariables false
set_option linter.unusedSimpArgs false
namespace Go.Proofs.YtfnlehnhcekpkaaDoor
open Go Go.RowKit Go.BigFrame
set_option maxRecDepth 100000

theorem rightB_of (n : Nat) (k : Nat) (hn : n < 1152921504606846976) (hk : k = n % 64) : rightB (n : Int) k = true := by
  subst hk
  simp [rightB]
  omega
theorem endP_more (l : List UInt8) (hl : l.length ≤ 281474976710656) : endP (more h0 l).1 ((l.length : Int)) (bs (more h0 l).2) = (shaL l, 0) := by
  unfold endP
  rw [rightB_of l.length _ (by omega) (by rw [bs_size, more_rest _ _ _ (Nat.le_refl _)]), if_pos rfl]
  rfl
set_option maxHeartbeats 1000000 in
theorem sum_any (s : ByteArray) (w : World) (hK : Ks w) (hs : s.size ≤ 281474976710656) :
    Calls Tryd.prog 23 #[.string s] w fun e' w' => e' = .returned (.string (bs (shaL s.data.toList))) ∧ Below w.heap.size w w' := by
  have HK := Lib.hid hK; clear hK
  have hL : s.data.toList.length = s.size := (ba_size s).symm
  have HL := Lib.hid hL; clear hL
  go_enter Tryd.func23, Tryd.ntmps23
  go_wp2_with fail
  go_at_call 49
  refine (start_any _).mono ?_
  rintro e' w1 ⟨rfl, hb⟩
  have H1 := Lib.hid hb; clear hb
  go_wp2_with fail
  go_at_call 48
  refine (more_any h0 rfl 0 (bs []) s _ (HK.out.ext H1.out) (by rw [bs_size]; simpa using hs) (by decide) (by decide)).mono ?_
  rintro e' w2 ⟨he, hb⟩
  have e1 : ((0 : Int) + (s.size : Int)) % 18446744073709551616 = (s.data.toList.length : Int) := by rw [HL.out]; omega
  rw [bs_toList, List.nil_append, e1] at he
  subst he
  have H2 := Lib.hid (below_ext H1.out hb); clear hb e1
  go_wp2_with fail
  go_at_call 47
  refine (end_any (more h0 s.data.toList).1 (more_length _ rfl _) (s.data.toList.length : Int) (bs (more h0 s.data.toList).2) _ (HK.out.ext H2.out) (by rw [bs_size, more_rest _ _ _ (Nat.le_refl _)]; omega) (by omega) (by rw [HL.out]; omega)).mono ?_
  rintro e' w3 ⟨he, hb⟩
  rw [endP_more _ (by rw [HL.out]; omega)] at he
  subst he
  have H3 := Lib.hid (below_ext H2.out hb); clear hb
  go_wp2_with fail
  go_ret
  exact ⟨rfl, H3.out⟩
end Go.Proofs.YtfnlehnhcekpkaaDoor

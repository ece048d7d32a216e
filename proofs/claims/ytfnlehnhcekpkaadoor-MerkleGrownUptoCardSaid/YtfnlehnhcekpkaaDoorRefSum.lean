/- codicilref01: Sum. No conditions. -/
import Derived.Test.YtfnlehnhcekpkaaDoorRefEnd
set_option linter.unusedVariables false
set_option linter.unusedSimpArgs false
namespace Go.Proofs.YtfnlehnhcekpkaaDoor
open Go Go.RowKit Go.BigFrame
set_option maxRecDepth 100000

set_option maxHeartbeats 1000000 in
theorem rsum_any (s : ByteArray) (w : World) (hs : s.size ≤ 281474976710656) :
    Calls Tryd.prog 38 #[.string s] w fun e' w' => e' = .returned (.string (bs (shaL s.data.toList))) ∧ Below w.heap.size w w' := by
  have hL : s.data.toList.length = s.size := (ba_size s).symm
  have HL := Lib.hid hL; clear hL
  go_enter Tryd.func38, Tryd.ntmps38
  go_wp2_with fail
  go_at_call 60
  refine (rstart_any _).mono ?_
  rintro e' w1 ⟨rfl, hb⟩
  have H1 := Lib.hid hb; clear hb
  go_wp2_with fail
  go_at_call 59
  refine (all_any h0 rfl 0 (bs []) s _ (by rw [bs_size]; simpa using hs) (by decide) (by decide)).mono ?_
  rintro e' w2 ⟨he, hb⟩
  have e1 : ((0 : Int) + (s.size : Int)) % 18446744073709551616 = (s.data.toList.length : Int) := by rw [HL.out]; omega
  rw [bs_toList, List.nil_append, e1] at he
  subst he
  have H2 := Lib.hid (below_ext H1.out hb); clear hb e1
  go_wp2_with fail
  go_at_call 58
  refine (rend_any (more h0 s.data.toList).1 (more_length _ rfl _) (s.data.toList.length : Int) (bs (more h0 s.data.toList).2) _ (by rw [bs_size, more_rest _ _ _ (Nat.le_refl _)]; omega) (by omega) (by rw [HL.out]; omega)).mono ?_
  rintro e' w3 ⟨he, hb⟩
  rw [endP_more _ (by rw [HL.out]; omega)] at he
  subst he
  have H3 := Lib.hid (below_ext H2.out hb); clear hb
  go_wp2_with fail
  go_ret
  exact ⟨rfl, H3.out⟩
end Go.Proofs.YtfnlehnhcekpkaaDoor

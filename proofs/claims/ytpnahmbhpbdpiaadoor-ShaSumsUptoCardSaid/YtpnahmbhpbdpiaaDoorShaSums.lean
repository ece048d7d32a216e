/- codicillaw01.ShaSums: walk and law. Condition: the table of constants reads as the text lays it. -/
import Derived.Test.YtpnahmbhpbdpiaaDoorShaTop
import Derived.Test.YtpnahmbhpbdpiaaDoorShaGrows
import Derived.Test.YtpnahmbhpbdpiaaDoorRefSum
import Derived.Deep.Cut
set_option linter.unusedVariables false
set_option linter.unusedSimpArgs false
namespace Go.Proofs.YtpnahmbhpbdpiaaDoor
open Go Go.RowKit Go.BigFrame
set_option maxRecDepth 100000

set_option maxHeartbeats 1000000 in
theorem sums_any (x : ByteArray) (w : World) (hK : Ks w) (hr : x.size ≤ 1048576) :
    Calls Tryd.prog 3 #[.string x] w fun e' w' => e' = .returned (.bool true) ∧ Below w.heap.size w w' := by
  have HK := Lib.hid hK; clear hK
  obtain ⟨p, hp⟩ : ∃ p, p = bs (shaL x.data.toList) := ⟨_, rfl⟩
  obtain ⟨q, hq⟩ : ∃ q, q = bs (hexL x.data.toList) := ⟨_, rfl⟩
  have HP := Lib.hid hp; clear hp
  have HQ := Lib.hid hq; clear hq
  go_enter Tryd.func3, Tryd.ntmps3
  go_wp2_with fail
  go_at_call 8
  refine (lives_any _ HK.out).mono ?_
  rintro e' w1 ⟨rfl, hb⟩
  have HW1 := Lib.hid hb; clear hb
  go_wp2_with fail
  go_at_call 9
  refine (sum_any x _ (HK.out.ext HW1.out) (by omega)).mono ?_
  rintro e' w2 ⟨he, hb⟩
  rw [← HP.out] at he
  subst he
  have HW2 := Lib.hid (below_ext HW1.out hb); clear hb
  go_wp2_with fail
  go_at_call 10
  refine (rsum_any x _ (by omega)).mono ?_
  rintro e' w3 ⟨he, hb⟩
  rw [← HP.out] at he
  subst he
  have HW3 := Lib.hid (below_ext HW2.out hb); clear hb
  go_wp2_with fail
  go_at_call 11
  refine (hex_any x _ (by omega)).mono ?_
  rintro e' w4 ⟨he, hb⟩
  rw [← HQ.out] at he
  subst he
  have HW4 := Lib.hid (below_ext HW3.out hb); clear hb
  go_wp2_with fail
  go_at_call 12
  refine (rhex_any x _ (by omega)).mono ?_
  rintro e' w5 ⟨he, hb⟩
  rw [← HQ.out] at he
  subst he
  have HW5 := Lib.hid (below_ext HW4.out hb); clear hb
  go_wp2_with fail
  go_ret
  exact ⟨rfl, HW5.out⟩
end Go.Proofs.YtpnahmbhpbdpiaaDoor

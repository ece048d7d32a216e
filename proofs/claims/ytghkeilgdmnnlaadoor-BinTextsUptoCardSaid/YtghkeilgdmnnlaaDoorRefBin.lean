/- codicilref03: zig, zag, Bytes; codicilref02.Utf. No conditions. -/
import Derived.Test.YtghkeilgdmnnlaaDoorBinTop
set_option linter.unusedVariables false
set_option linter.unusedSimpArgs false
namespace Go.Proofs.YtghkeilgdmnnlaaDoor
open Go Go.RowKit Go.BigFrame
set_option maxRecDepth 100000

set_option maxHeartbeats 1000000 in
theorem ref_zig_any (n : Int) (w : World) (h0 : -9223372036854775808 ≤ n) (h1 : n ≤ 9223372036854775807) :
    Calls Tryd.prog 46 #[.int .i64 n] w fun e' w' => e' = .returned (.int .u64 ((zigN n : Nat) : Int)) ∧ w = w' := by
  obtain ⟨R, hR⟩ : ∃ R : Int, R = ((zigN n : Nat) : Int) := ⟨_, rfl⟩
  rw [← hR]
  by_cases hn : 0 ≤ n
  · have hr : R = 2 * n := by rw [hR, zigN, if_pos hn]; omega
    have HR := Lib.hid hr
    clear hR hr
    go_enter Tryd.func46, Tryd.ntmps46
    go_wp2
    go_ret
    exact ⟨by rw [HR.out]; rfl, rfl⟩
  · have hr : R = 2 * (-(n + 1)) + 1 := by rw [hR, zigN, if_neg hn]; omega
    have HR := Lib.hid hr
    clear hR hr
    have hlt : n < 0 := by omega
    go_enter Tryd.func46, Tryd.ntmps46
    go_wp2
    go_ret
    exact ⟨by rw [HR.out]; rfl, rfl⟩
set_option maxHeartbeats 1000000 in
theorem ref_zag_any (n : Nat) (w : World) (hn : n < 18446744073709551616) :
    Calls Tryd.prog 51 #[.int .u64 (n : Int)] w fun e' w' => e' = .returned (.int .i64 (zagN n)) ∧ w = w' := by
  obtain ⟨R, hR⟩ : ∃ R : Int, R = zagN n := ⟨_, rfl⟩
  rw [← hR]
  by_cases h2 : n % 2 = 0
  · have hr : R = (n : Int) / 2 := by rw [hR, zagN, if_pos h2]; omega
    have hI : ((n : Int) % 2 == 0) = true := by simp; omega
    have HR := Lib.hid hr
    clear hR hr h2
    go_enter Tryd.func51, Tryd.ntmps51
    go_wp2
    go_ret
    exact ⟨by rw [HR.out]; rfl, rfl⟩
  · have hr : R = -((n : Int) / 2) - 1 := by rw [hR, zagN, if_neg h2]; omega
    have hI : ((n : Int) % 2 == 0) = false := by simp; omega
    have HR := Lib.hid hr
    clear hR hr h2
    go_enter Tryd.func51, Tryd.ntmps51
    go_wp2
    go_ret
    exact ⟨by rw [HR.out]; rfl, rfl⟩
set_option maxHeartbeats 1000000 in
theorem ref_bytes_any (s : List UInt8) (w : World) (hs : s.length ≤ 1099511627776) :
    Calls Tryd.prog 47 #[.string (bs s)] w fun e' w' => e' = .returned (.string (bs (bytesL s))) ∧ Below w.heap.size w w' := by
  have hsz := bs_size s
  have hn := numL_length s.length
  have hsN := bs_size (numL s.length)
  go_enter Tryd.func47, Tryd.ntmps47
  go_wp2_with fail
  go_at_call 19
  refine (ref_number_any s.length w (by omega)).mono ?_
  rintro e' w1 ⟨rfl, hb⟩
  have HB := Lib.hid hb
  clear hb
  go_wp2
  go_ret
  exact ⟨by rw [bytesL, ← bs_app]; rfl, HB.out⟩
end Go.Proofs.YtghkeilgdmnnlaaDoor

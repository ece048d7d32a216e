/- codicilref02.order: which of two is before the other. No conditions. -/
import Derived.Test.YthcojmpigdojoaaDoorCount
set_option linter.unusedVariables false
set_option linter.unusedSimpArgs false
namespace Go.Proofs.YthcojmpigdojoaaDoor
open Go Go.RowKit Go.BigFrame
set_option maxRecDepth 100000

theorem rorder_lt (w : World) : Calls Tryd.prog 44 #[.bool true, .bool false] w fun e' w' => e' = .returned (.int .i64 (-1)) ∧ w = w' := by
  go_enter Tryd.func44, Tryd.ntmps44
  go_wp2
  go_ret
  exact ⟨rfl, rfl⟩
theorem rorder_gt (w : World) : Calls Tryd.prog 44 #[.bool false, .bool true] w fun e' w' => e' = .returned (.int .i64 (1)) ∧ w = w' := by
  go_enter Tryd.func44, Tryd.ntmps44
  go_wp2
  go_ret
  exact ⟨rfl, rfl⟩
theorem rorder_eq (w : World) : Calls Tryd.prog 44 #[.bool false, .bool false] w fun e' w' => e' = .returned (.int .i64 (0)) ∧ w = w' := by
  go_enter Tryd.func44, Tryd.ntmps44
  go_wp2
  go_ret
  exact ⟨rfl, rfl⟩
end Go.Proofs.YthcojmpigdojoaaDoor

/- MerkleNone: no tree has nothing, and tells so. Conditions: the tables read as the texts lay them. -/
import Derived.Test.YtfnlehnhcekpkaaDoorMkL
set_option linter.unusedVariables false
set_option linter.unusedSimpArgs false
namespace Go.Proofs.YtfnlehnhcekpkaaDoor
open Go Go.RowKit Go.BigFrame
set_option maxRecDepth 100000

theorem none_any (i : Int) (w : World) (hK : Ks w) (hT : TzT w) (htg : 1 < w.heap.size) : Calls Tryd.prog 8 #[.int .i64 i] w fun e' w' => e' = .returned (.bool true) ∧ Below w.heap.size w w' := by
  have HL := Lib.hid (lives_any w hK hT htg)
  clear hK hT
  go_enter Tryd.func8, Tryd.ntmps8
  go_wp2_with fail
  go_at_call 15
  refine HL.out.mono ?_
  rintro e' w1 ⟨rfl, hb⟩
  have HB := Lib.hid hb
  clear hb
  go_wp2_with fail
  go_at_call 19
  refine (path_nil i w1).mono ?_
  rintro e' w2 ⟨rfl, rfl⟩
  go_wp2_with fail
  go_at_call 25
  refine (growth_nil i w1).mono ?_
  rintro e' w2 ⟨rfl, rfl⟩
  go_wp2_with fail
  go_at_call 24
  refine (size_nil w1).mono ?_
  rintro e' w2 ⟨rfl, rfl⟩
  go_wp2_with fail
  go_at_call 18
  refine (root_nil w1).mono ?_
  rintro e' w2 ⟨rfl, rfl⟩
  have h0 : (bs []).toList.isEmpty = true := by rw [tl_bs]; rfl
  go_wp2
  go_ret
  exact ⟨rfl, HB.out⟩
end Go.Proofs.YtfnlehnhcekpkaaDoor

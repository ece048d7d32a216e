/- Three operations of a drawn region that come in any order. No conditions. -/
import Derived.Test.YtfnlehnhcekpkaaDoorMixB
set_option linter.unusedVariables false
set_option linter.unusedSimpArgs false
namespace Go.Proofs.YtfnlehnhcekpkaaDoor
open Go Go.RowKit
section
variable {P : Program} {ops : Array Oper} {T : List Nat} {C : World → Prop} {Q : Exit → Act → World → Prop}
theorem mixB_br3 {i j k : Nat} {fuel : Nat} {listed : Array Bool} {a : Act} {w : World} (hr : Region.ready .any ops listed = [i, j, k]) (hi : ((ops[i]?).isSome && ((ops[j]?).isSome && (ops[k]?).isSome)) = true)
    (h1 : wpList P ops (Exit.then (ThenB P ops T C Q fuel (listed.setIfInBounds i true)) (Calm Q)) (opsAt ops [i]) a w)
    (h2 : wpList P ops (Exit.then (ThenB P ops T C Q fuel (listed.setIfInBounds j true)) (Calm Q)) (opsAt ops [j]) a w)
    (h3 : wpList P ops (Exit.then (ThenB P ops T C Q fuel (listed.setIfInBounds k true)) (Calm Q)) (opsAt ops [k]) a w) : mixB P ops T C Q (fuel + 1) listed a w := by
  simp only [Bool.and_eq_true] at hi
  refine ⟨fun h0 => (by rw [h0] at hr; cases hr), fun m hm => ?_⟩
  rw [hr] at hm
  have hm2 : m = i ∨ m = j ∨ m = k := by simpa using hm
  rcases hm2 with rfl | rfl | rfl
  · exact wpOp_mono (fun a' w' hk => ⟨.inr (.inr hk.1), hk.2⟩) (mixB_one hi.1 h1)
  · exact wpOp_mono (fun a' w' hk => ⟨.inr (.inr hk.1), hk.2⟩) (mixB_one hi.2.1 h2)
  · exact wpOp_mono (fun a' w' hk => ⟨.inr (.inr hk.1), hk.2⟩) (mixB_one hi.2.2 h3)
end
end Go.Proofs.YtfnlehnhcekpkaaDoor

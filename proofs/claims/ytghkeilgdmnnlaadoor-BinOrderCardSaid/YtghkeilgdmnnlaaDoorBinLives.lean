/- codicillaw03.lives answers true. Condition: utf8's tables read as the text lays them. -/
import Derived.Test.YtghkeilgdmnnlaaDoorBinTop
import Derived.Test.YtghkeilgdmnnlaaDoorRefSame
set_option linter.unusedVariables false
set_option linter.unusedSimpArgs false
namespace Go.Proofs.YtghkeilgdmnnlaaDoor
open Go Go.RowKit Go.BigFrame
set_option maxRecDepth 100000

def vL : DVal := .mk 6 false 0 [] [] [([97], .mk 2 false (-1) [] [] [])]
theorem wr_vL : wrP vL = ([7, 1, 1, 97, 3, 1], 0) := by decide +kernel
theorem rd_vL : rdV [7, 1, 1, 97, 3, 1] = (vL, 0) := by kernel_rfl
theorem rd_8 : rdV [8] = (.zero, 11) := by kernel_rfl
theorem num_300 : numL 300 = [172, 2] := by decide +kernel
theorem same_vL : sameV vL vL = true := (sameV_iff _ _).2 rfl
theorem text_vL : (textV vL).length ≤ 1099511627776 := by decide +kernel
set_option maxHeartbeats 4000000 in
theorem lives_any (w : World) (hT : U8T w) : Calls Tryd.prog 14 #[] w fun e' w' => e' = .returned (.bool true) ∧ Below w.heap.size w w' := by
  have HT := Lib.hid hT
  clear hT
  go_enter Tryd.func14, Tryd.ntmps14
  go_upto_region 2 with (fail)
  generalize hW1 : World.alloc (World.alloc w _) _ = W1
  have hf1 : IsBlk W1 w.heap.size #[.string (bs [97]), .int .u8 2, .bool false, .int .i64 (-1), .string (bs []), .slice none 0 0, .slice none 0 0] 61 := by rw [← hW1]; exact (IsBlk.new _ _ _).alloc _
  have hv1 : IsBlk W1 (w.heap.size + 1) #[.int .u8 6, .bool false, .int .i64 0, .string (bs []), .slice none 0 0, .slice (some ⟨w.heap.size, 0, none⟩) 1 1] 26 := by rw [← hW1]; exact IsBlk.new_at (by simp)
  have hb1 : Below w.heap.size w W1 := by rw [← hW1]; exact ((Below.refl _ _).alloc (Nat.le_refl _) _).alloc (by simp) _
  clear hW1
  have hlt := hv1.lt
  have hval : HasVal (fun _ => True) W1 vL [.int .u8 6, .bool false, .int .i64 0, .string (bs []), .slice none 0 0, .slice (some ⟨w.heap.size, 0, none⟩) 1 1] := by
    refine hasVal_mk.2 ⟨none, 0, some ⟨w.heap.size, 0, none⟩, 1, rfl, ⟨by decide, by decide, by decide, by simp, by simp, by simp, by simp, by unfold maxLen; omega, by simp, by unfold maxLen; omega⟩, fun i hi => by simp at hi, fun i hi => ?_⟩
    have hi0 : i = 0 := by simp at hi; omega
    subst hi0
    refine ⟨w.heap.size, 0, [.int .u8 2, .bool false, .int .i64 (-1), .string (bs []), .slice none 0 0, .slice none 0 0], rfl, ⟨(show ([97] : List UInt8).length ≤ 1073741824 by decide), trivial, by omega, fun j hj => ?_⟩, flat_has _ W1 2 (by decide) false (-1) (by decide) (by decide) [] (by decide)⟩
    rw [Nat.zero_mul, Nat.zero_add]
    match j, hj with
    | 0, _ => exact hf1.cell rfl
    | 1, _ => exact hf1.cell rfl
    | 2, _ => exact hf1.cell rfl
    | 3, _ => exact hf1.cell rfl
    | 4, _ => exact hf1.cell rfl
    | 5, _ => exact hf1.cell rfl
    | 6, _ => exact hf1.cell rfl
    | j + 7, hj => simp at hj; omega
  have c0 : W1.cell? ⟨w.heap.size + 1, 0, none⟩ = some (.int .u8 6) := hv1.cell rfl
  have c1 : W1.cell? ⟨w.heap.size + 1, 1, none⟩ = some (.bool false) := hv1.cell rfl
  have c2 : W1.cell? ⟨w.heap.size + 1, 2, none⟩ = some (.int .i64 0) := hv1.cell rfl
  have c3 : W1.cell? ⟨w.heap.size + 1, 3, none⟩ = some (.string (bs [])) := hv1.cell rfl
  have c4 : W1.cell? ⟨w.heap.size + 1, 4, none⟩ = some (.slice none 0 0) := hv1.cell rfl
  have c5 : W1.cell? ⟨w.heap.size + 1, 5, none⟩ = some (.slice (some ⟨w.heap.size, 0, none⟩) 1 1) := hv1.cell rfl
  have HV1 := Lib.hid hv1
  have HVAL := Lib.hid hval
  have HB1 := Lib.hid hb1
  clear hf1 hv1 hval hb1
  go_wp2_with fail
  go_at_call 10
  refine (write_any vL _ _ _ HVAL.out (U8T_ext HT.out HB1.out) text_vL).mono ?_
  rintro e' w2 ⟨he, hb⟩
  rw [wr_vL] at he
  subst he
  have HV2 := Lib.hid (HV1.out.ext hb)
  have HVAL2 := Lib.hid (HVAL.out.ext hb)
  have HB2 := Lib.hid (below_ext HB1.out hb)
  clear hb c0 c1 c2 c3 c4 c5 HV1 HVAL HB1
  go_wp2_with fail
  go_at_call 12
  refine (read_any [7, 1, 1, 97, 3, 1] w2 (U8T_ext HT.out HB2.out) (by decide)).mono ?_
  rintro e' w3 ⟨cs, he, hval, hb⟩
  rw [rd_vL] at he hval
  subst he
  have HW := Lib.hid hval
  obtain ⟨pl1, cl1, pf1, cf1, rfl, _, _, _⟩ := hasVal_mk.1 (show HasVal _ w3 (.mk 6 false 0 [] [] [([97], .mk 2 false (-1) [] [] [])]) cs from hval)
  have HV3 := Lib.hid (HV2.out.ext hb)
  have HVAL3 := Lib.hid (HVAL2.out.ext hb)
  have HB3 := Lib.hid (below_ext HB2.out hb)
  clear hb hval HV2 HVAL2 HB2
  go_upto_region 4 with (fail)
  generalize hW4 : World.alloc w3 _ = W4
  have hb4 : Below w3.heap.size w3 W4 := by rw [← hW4]; exact (Below.refl _ _).alloc (Nat.le_refl _) _
  have hd4 : IsBlk W4 w3.heap.size #[.int .u8 6, .bool false, .int .i64 0, .string (bs []), .slice pl1 0 cl1, .slice pf1 1 cf1] 26 := by rw [← hW4]; exact IsBlk.new _ _ _
  clear hW4
  have HV4 := Lib.hid (HV3.out.ext hb4)
  have HVAL4 := Lib.hid (HVAL3.out.ext hb4)
  have HW4 := Lib.hid (HW.out.ext hb4)
  have HB4 := Lib.hid (below_ext HB3.out hb4)
  have HD4 := Lib.hid hd4
  clear hb4 hd4 HV3 HVAL3 HW HB3
  go_wp2_with fail
  go_at_call 12
  refine (read_any [8] W4 (U8T_ext HT.out HB4.out) (by decide)).mono ?_
  rintro e' w5 ⟨cs, he, hval, hb⟩
  rw [rd_8] at he hval
  subst he
  obtain ⟨pl2, cl2, pf2, cf2, rfl, _, _, _⟩ := hasVal_mk.1 (show HasVal _ w5 (.mk 0 false 0 [] [] []) cs from hval)
  have HV5 := Lib.hid (HV4.out.ext hb)
  have HVAL5 := Lib.hid (HVAL4.out.ext hb)
  have HW5 := Lib.hid (HW4.out.ext hb)
  have HB5 := Lib.hid (below_ext HB4.out hb)
  have HD5 := Lib.hid (HD4.out.ext hb)
  clear hb hval HV4 HVAL4 HW4 HB4 HD4
  go_upto_region 5 with (fail)
  generalize hW6 : World.alloc w5 _ = W6
  have hb6 : Below w5.heap.size w5 W6 := by rw [← hW6]; exact (Below.refl _ _).alloc (Nat.le_refl _) _
  clear hW6
  have hv6 := HV5.out.ext hb6
  have hd6 := HD5.out.ext hb6
  have HVAL6 := Lib.hid (HVAL5.out.ext hb6)
  have HW6 := Lib.hid (HW5.out.ext hb6)
  have HB6 := Lib.hid (below_ext HB5.out hb6)
  clear hb6 HV5 HVAL5 HW5 HB5 HD5
  have c0 : W6.cell? ⟨w.heap.size + 1, 0, none⟩ = some (.int .u8 6) := hv6.cell rfl
  have c1 : W6.cell? ⟨w.heap.size + 1, 1, none⟩ = some (.bool false) := hv6.cell rfl
  have c2 : W6.cell? ⟨w.heap.size + 1, 2, none⟩ = some (.int .i64 0) := hv6.cell rfl
  have c3 : W6.cell? ⟨w.heap.size + 1, 3, none⟩ = some (.string (bs [])) := hv6.cell rfl
  have c4 : W6.cell? ⟨w.heap.size + 1, 4, none⟩ = some (.slice none 0 0) := hv6.cell rfl
  have c5 : W6.cell? ⟨w.heap.size + 1, 5, none⟩ = some (.slice (some ⟨w.heap.size, 0, none⟩) 1 1) := hv6.cell rfl
  have d0 : W6.cell? ⟨w3.heap.size, 0, none⟩ = some (.int .u8 6) := hd6.cell rfl
  have d1 : W6.cell? ⟨w3.heap.size, 1, none⟩ = some (.bool false) := hd6.cell rfl
  have d2 : W6.cell? ⟨w3.heap.size, 2, none⟩ = some (.int .i64 0) := hd6.cell rfl
  have d3 : W6.cell? ⟨w3.heap.size, 3, none⟩ = some (.string (bs [])) := hd6.cell rfl
  have d4 : W6.cell? ⟨w3.heap.size, 4, none⟩ = some (.slice pl1 0 cl1) := hd6.cell rfl
  have d5 : W6.cell? ⟨w3.heap.size, 5, none⟩ = some (.slice pf1 1 cf1) := hd6.cell rfl
  clear hv6 hd6
  have hs : (bs [7, 1, 1, 97, 3, 1]).toList = [7, 1, 1, 97, 3, 1] := tl_bs _
  have hs2 : (bs [172, 2]).toList = [172, 2] := tl_bs _
  go_wp2_with fail
  go_at_call 15
  refine (ref_same_any vL vL _ _ _ _ W6 HVAL6.out HW6.out).mono ?_
  rintro e' w7 ⟨he, hb⟩
  rw [same_vL] at he
  subst he
  have HB7 := Lib.hid (below_ext HB6.out hb)
  clear hb c0 c1 c2 c3 c4 c5 d0 d1 d2 d3 d4 d5
  go_wp2_with fail
  go_at_call 18
  refine (bin_number_any 300 w7 (by decide)).mono ?_
  rintro e' w8 ⟨he, hb⟩
  rw [num_300] at he
  subst he
  have HB8 := Lib.hid (below_ext HB7.out hb)
  clear hb
  go_wp2
  go_ret
  exact ⟨rfl, HB8.out⟩
end Go.Proofs.YtghkeilgdmnnlaaDoor

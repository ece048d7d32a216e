/- What the statements of values ask first: answers that the document gives. Conditions: the tables and the two errors read as the texts lay them. -/
import Derived.Test.YthcojmpigdojoaaDoorPut0
import Derived.Test.YthcojmpigdojoaaDoorGetV
import Derived.Test.YthcojmpigdojoaaDoorCmpV
import Derived.Test.YthcojmpigdojoaaDoorCount
import Derived.Test.YthcojmpigdojoaaDoorChk
set_option linter.unusedVariables false
set_option linter.unusedSimpArgs false
namespace Go.Proofs.YthcojmpigdojoaaDoor
open Go Go.RowKit Go.BigFrame
set_option maxRecDepth 100000

theorem flat_has (S : Nat → Prop) (w : World) (k : Nat) (hk : k < 256) (b : Bool) (n : Int) (h0 : -9223372036854775808 ≤ n) (h1 : n ≤ 9223372036854775807) (s : List UInt8) (hs : s.length ≤ 1073741824) : HasVal S w (.mk k b n s [] []) [.int .u8 (k : Int), .bool b, .int .i64 n, .string (bs s), .slice none 0 0, .slice none 0 0] :=
  hasVal_mk.2 ⟨none, 0, none, 0, rfl, ⟨hk, h0, h1, hs, by simp, by simp, by simp, by unfold maxLen; omega, by simp, by unfold maxLen; omega⟩, fun i hi => by simp at hi, fun i hi => by simp at hi⟩
/-- Values that lie one behind another in a block. -/
theorem hasL_blk {S : Nat → Prop} {w : World} {g : Nat} {t : TypeId} {l : List DVal} {css : List (List Value)} (hG : IsBlk w g css.flatten.toArray t) (hS : S g) (hl : css.length = l.length) (hv : ∀ i (h : i < l.length) (h' : i < css.length), HasVal S w l[i] css[i]) : HasL S w (some ⟨g, 0, none⟩) l := fun i hi => by
  have hi' : i < css.length := by omega
  have hlen : ∀ c ∈ css, c.length = 6 := fun c hc => by
    obtain ⟨j, hj, rfl⟩ := List.getElem_of_mem hc
    exact (hv j (by omega) hj).len
  refine ⟨g, 0, css[i], rfl, ⟨hS, hG.lt, fun j hj => ?_⟩, hv i hi hi'⟩
  have hj6 : j < 6 := by rw [← hlen _ (List.getElem_mem hi')]; exact hj
  have hg2 := flatten_get hlen hi' hj6
  have hc : css[i][j]? = some css[i][j] := List.getElem?_eq_getElem hj
  rw [hc] at hg2 ⊢
  rw [Nat.zero_add]
  exact hG.cell (by simpa using hg2)
theorem list_has {S : Nat → Prop} {w : World} {p : Option Addr} {l : List DVal} {c : Nat} (h : HasL S w p l) (hl : l.length ≤ 1073741824) (hc : l.length ≤ c) (hm : c ≤ maxLen) : HasVal S w (.mk 5 false 0 [] l []) [.int .u8 5, .bool false, .int .i64 0, .string (bs []), .slice p l.length c, .slice none 0 0] :=
  hasVal_mk.2 ⟨p, c, none, 0, rfl, ⟨by omega, by omega, by omega, by simp, hl, by simp, hc, hm, by simp, by unfold maxLen; omega⟩, h, fun i hi => by simp at hi⟩
theorem whole_any (z : Int) (w : World) : Calls Tryd.prog 28 #[.int .i64 z] w fun e' w' => e' = .returned (.agg #[.int .u8 2, .bool false, .int .i64 z, .string (bs []), .slice none 0 0, .slice none 0 0]) ∧ Below w.heap.size w w' := by
  go_enter Tryd.func28, Tryd.ntmps28
  go_wp2
  exact bodyPost_ret (results_c (p := 2) (ty := 26) Tryd.results28 rfl (IsBlk.new _ _ _) Tryd.underlying26 rfl (by kernel_rfl)) rfl ⟨rfl, (Below.refl _ _).alloc (Nat.le_refl _) _⟩
theorem list_any (p : Option Addr) (n c : Nat) (w : World) : Calls Tryd.prog 13 #[.slice p n c] w fun e' w' => e' = .returned (.agg #[.int .u8 5, .bool false, .int .i64 0, .string (bs []), .slice p n c, .slice none 0 0]) ∧ Below w.heap.size w w' := by
  go_enter Tryd.func13, Tryd.ntmps13
  go_wp2
  exact bodyPost_ret (results_c (p := 2) (ty := 26) Tryd.results13 rfl (IsBlk.new _ _ _) Tryd.underlying26 rfl (by kernel_rfl)) rfl ⟨rfl, (Below.refl _ _).alloc (Nat.le_refl _) _⟩
def wholeV (z : Int) : DVal := .mk 2 false z [] [] []
def listV (l : List DVal) : DVal := .mk 5 false 0 [] l []
def sV : DVal := .mk 6 false 0 [] [] [([97], listV [wholeV 7])]
theorem get_s : getV sV [[97], [48]] = some (wholeV 7) := by
  have h1 : idxI (isName [97]) 0 [([97], listV [wholeV 7])] = Int.ofNat 0 := rfl
  have h2 : placeN [48] 1 = some 0 := by decide +kernel
  show getV (.mk 6 false 0 [] [] [([97], listV [wholeV 7])]) [[97], [48]] = _
  rw [getV, if_pos rfl, h1]
  show getV (.mk 5 false 0 [] [wholeV 7] []) [[48]] = _
  rw [getV, if_neg (by decide), if_pos rfl]
  show (match placeN [48] 1 with | some i => _ | none => _) = _
  rw [h2]
  rfl
theorem cmp_1 : cmpV (wholeV 1) (.mk 3 false 0 [97] [] []) = -1 := by decide +kernel
theorem cmp_2 : cmpV (listV [wholeV 1]) (listV [wholeV 1, wholeV 0]) = -1 := by decide +kernel
theorem count_s : countV sV = 3 := by decide +kernel
theorem check_1 : checkV 0 (.mk 0 false 1 [] [] []) = 5 := by decide +kernel
theorem hasS2 {w : World} {g : Nat} {t : TypeId} {a b : List UInt8} (hG : IsBlk w g #[.string (bs a), .string (bs b)] t) : HasS (fun _ => True) w (some ⟨g, 0, none⟩) [a, b] := fun i hi => by
  refine ⟨g, 0, rfl, trivial, hG.lt, ?_⟩
  rw [Nat.zero_add]
  match i, hi with
  | 0, _ => exact hG.cell rfl
  | 1, _ => exact hG.cell rfl
set_option maxHeartbeats 8000000 in
theorem vlives_any (w : World) (hN : NumT w) (hU : U8T w) : Calls Tryd.prog 11 #[] w fun e' w' => e' = .returned (.bool true) ∧ Below w.heap.size w w' := by
  have HN := Lib.hid hN
  have HU := Lib.hid hU
  clear hN hU
  go_enter Tryd.func11, Tryd.ntmps11
  go_wp2_with fail
  go_at_call 28
  refine (whole_any 7 w).mono ?_
  rintro e' w1 ⟨rfl, hb⟩
  have HB1 := Lib.hid hb
  have hz1 := hb.size
  clear hb
  have hg1 : IsBlk (w1.alloc (.cells #[.int .u8 2, .bool false, .int .i64 7, .string (bs []), .slice none 0 0, .slice none 0 0] 26)) w1.heap.size ([[.int .u8 2, .bool false, .int .i64 7, .string (bs []), .slice none 0 0, .slice none 0 0]] : List (List Value)).flatten.toArray 26 := IsBlk.new _ _ _
  have hb1 : Below w1.heap.size w1 (w1.alloc (.cells #[.int .u8 2, .bool false, .int .i64 7, .string (bs []), .slice none 0 0, .slice none 0 0] 26)) := (Below.refl _ _).alloc (Nat.le_refl _) _
  have HG1 := Lib.hid hg1
  have HA1 := Lib.hid hb1
  clear hg1 hb1
  go_wp2_with fail
  go_at_call 13
  refine (list_any _ 1 1 _).mono ?_
  rintro e' w2 ⟨rfl, hb0⟩
  have hb := below_ext HA1.out hb0
  have HB2 := Lib.hid (HB1.out.trans (hb.mono hz1))
  have hz2 := HB2.out.size
  have hl2 : HasL (fun _ => True) w2 (some ⟨w1.heap.size, 0, none⟩) [wholeV 7] := hasL_blk (HG1.out.ext hb0) trivial rfl (fun i hi _ => by
    obtain rfl : i = 0 := by have : i < 1 := hi; omega
    exact flat_has _ _ 2 (by omega) false 7 (by omega) (by omega) [] (by simp))
  have hput : Calls Tryd.prog 14 #[.agg #[.int .u8 6, .bool false, .int .i64 0, .string ⟨#[]⟩, .slice none 0 0, .slice none 0 0], .string ⟨#[97]⟩, .agg #[.int .u8 5, .bool false, .int .i64 0, .string (bs []), .slice (some ⟨w1.heap.size, 0, none⟩) 1 1, .slice none 0 0]] w2 fun e' w' => ∃ cs', e' = .returned (.tuple #[.agg cs'.toArray, .int .i64 0]) ∧ HasVal (fun b => w2.heap.size ≤ b) w' sV cs' ∧ Below w2.heap.size w2 w' :=
    put0_any false 0 [] [] [97] (listV [wholeV 7]) (fun _ => True) (fun _ => True) [.int .u8 6, .bool false, .int .i64 0, .string ⟨#[]⟩, .slice none 0 0, .slice none 0 0] [.int .u8 5, .bool false, .int .i64 0, .string (bs []), .slice (some ⟨w1.heap.size, 0, none⟩) 1 1, .slice none 0 0] w2 (flat_has _ _ 6 (by omega) false 0 (by omega) (by omega) [] (by simp)) (list_has hl2 (by simp) (by simp) (by unfold maxLen; omega)) (by simp)
  have HPUT := Lib.hid hput
  clear hb hb0 hl2 hput HG1 HA1
  go_wp2_with fail
  go_at_call 14
  refine HPUT.out.mono ?_
  rintro e' w3 ⟨cs3, rfl, hv3, hb⟩
  have HB3 := Lib.hid (HB2.out.trans (hb.mono hz2))
  have hz3 := HB3.out.size
  have hv3' := hv3
  obtain ⟨pl3, cl3, pf3, cf3, rfl, _⟩ := hasVal_mk.1 (show HasVal _ w3 (.mk 6 false 0 [] [] [([97], listV [wholeV 7])]) cs3 from hv3')
  have HV3 := Lib.hid hv3
  clear hb hv3 hv3'
  have hbx : IsBlk ((w3.alloc (.cells #[.int .u8 ((6 : Nat) : Int), .bool false, .int .i64 0, .string (bs []), .slice pl3 0 cl3, .slice pf3 1 cf3] 26)).alloc (.cells #[.string ⟨#[97]⟩, .string ⟨#[48]⟩] 9)) w3.heap.size #[.int .u8 ((6 : Nat) : Int), .bool false, .int .i64 0, .string (bs []), .slice pl3 0 cl3, .slice pf3 1 cf3] 26 := (IsBlk.new _ _ _).alloc _
  have hss : IsBlk ((w3.alloc (.cells #[.int .u8 ((6 : Nat) : Int), .bool false, .int .i64 0, .string (bs []), .slice pl3 0 cl3, .slice pf3 1 cf3] 26)).alloc (.cells #[.string ⟨#[97]⟩, .string ⟨#[48]⟩] 9)) (w3.heap.size + 1) #[.string (bs [97]), .string (bs [48])] 9 := IsBlk.new_at (by simp)
  have hb3 : Below w3.heap.size w3 ((w3.alloc (.cells #[.int .u8 ((6 : Nat) : Int), .bool false, .int .i64 0, .string (bs []), .slice pl3 0 cl3, .slice pf3 1 cf3] 26)).alloc (.cells #[.string ⟨#[97]⟩, .string ⟨#[48]⟩] 9)) := ((Below.refl _ _).alloc (Nat.le_refl _) _).alloc (by simp) _
  have hget := get_any sV [[97], [48]] _ _ _ _ 2 _ (HV3.out.ext hb3) (hasS2 hss) (by simp) (fun x hx => by
    rcases List.mem_cons.1 hx with rfl | hx
    · simp
    · rw [List.mem_singleton.1 hx]; simp) (HN.out.ext (HB3.out.trans (hb3.mono hz3)))
  rw [get_s] at hget
  have HGET := Lib.hid hget
  have HBX := Lib.hid hbx
  have HA3 := Lib.hid hb3
  clear hbx hss hb3 hget
  go_wp2_with fail
  go_at_call 16
  refine HGET.out.mono ?_
  rintro e' w4 ⟨cs4, rfl, hv4, hb0⟩
  rw [show (some (wholeV 7)).isSome = true from rfl]
  have hb := below_ext HA3.out hb0
  have HB4 := Lib.hid (HB3.out.trans (hb.mono hz3))
  have hz4 := HB4.out.size
  obtain ⟨pl4, cl4, pf4, cf4, rfl, _⟩ := hasVal_mk.1 (show HasVal _ w4 (.mk 2 false 7 [] [] []) cs4 from hv4)
  have HX4 := Lib.hid (HBX.out.ext hb0)
  have HV4 := Lib.hid (HV3.out.ext hb)
  have hx4 := (HBX.out.ext hb0).lt
  clear hb hb0 hv4 HBX HV3 HA3
  have hb4 : Below w4.heap.size w4 (w4.alloc (.cells #[.int .u8 2, .bool false, .int .i64 7, .string (bs []), .slice pl4 0 cl4, .slice pf4 0 cf4] 26)) := (Below.refl _ _).alloc (Nat.le_refl _) _
  have hv5 : IsBlk (w4.alloc (.cells #[.int .u8 2, .bool false, .int .i64 7, .string (bs []), .slice pl4 0 cl4, .slice pf4 0 cf4] 26)) w4.heap.size #[.int .u8 2, .bool false, .int .i64 7, .string (bs []), .slice pl4 0 cl4, .slice pf4 0 cf4] 26 := IsBlk.new _ _ _
  have HA4 := Lib.hid hb4
  have HY4 := Lib.hid hv5
  clear hb4 hv5
  go_wp2_with fail
  go_at_call 28
  refine (whole_any 1 _).mono ?_
  rintro e' w5 ⟨rfl, hb0⟩
  have hb := below_ext HA4.out hb0
  have HB5 := Lib.hid (HB4.out.trans (hb.mono hz4))
  have hz5 := HB5.out.size
  have HX5 := Lib.hid (HX4.out.ext hb)
  have HV5 := Lib.hid (HV4.out.ext hb)
  have HY5 := Lib.hid (HY4.out.ext hb0)
  have hs45 := hb.size
  clear hb hb0
  go_wp2_with fail
  go_at_call 20
  have hcmp : Calls Tryd.prog 20 #[.agg #[.int .u8 2, .bool false, .int .i64 1, .string (bs []), .slice none 0 0, .slice none 0 0], .agg #[.int .u8 3, .bool false, .int .i64 0, .string ⟨#[97]⟩, .slice none 0 0, .slice none 0 0]] w5 fun e' w' => e' = .returned (.int .i64 (-1)) ∧ Below w5.heap.size w5 w' := by
    have h := cmp_any (wholeV 1) (.mk 3 false 0 [97] [] []) (fun _ => True) (fun _ => True) [.int .u8 2, .bool false, .int .i64 1, .string (bs []), .slice none 0 0, .slice none 0 0] [.int .u8 3, .bool false, .int .i64 0, .string ⟨#[97]⟩, .slice none 0 0, .slice none 0 0] w5 (flat_has _ _ 2 (by omega) false 1 (by omega) (by omega) [] (by simp)) (flat_has _ _ 3 (by omega) false 0 (by omega) (by omega) [97] (by simp))
    rw [cmp_1] at h
    exact h
  refine hcmp.mono ?_
  clear hcmp
  rintro e' w6 ⟨rfl, hb⟩
  have HB6 := Lib.hid (HB5.out.trans (hb.mono hz5))
  have hz6 := HB6.out.size
  have HX6 := Lib.hid (HX5.out.ext hb)
  have HV6 := Lib.hid (HV5.out.ext hb)
  have HY6 := Lib.hid (HY5.out.ext hb)
  clear hb
  go_wp2_with fail
  go_at_call 28
  refine (whole_any 1 _).mono ?_
  rintro e' w7 ⟨rfl, hb⟩
  have HB7 := Lib.hid (HB6.out.trans (hb.mono hz6))
  have hz7 := HB7.out.size
  have HX7 := Lib.hid (HX6.out.ext hb)
  have HV7 := Lib.hid (HV6.out.ext hb)
  have HY7 := Lib.hid (HY6.out.ext hb)
  clear hb
  have hg7 : IsBlk (w7.alloc (.cells #[.int .u8 2, .bool false, .int .i64 1, .string (bs []), .slice none 0 0, .slice none 0 0] 26)) w7.heap.size ([[.int .u8 2, .bool false, .int .i64 1, .string (bs []), .slice none 0 0, .slice none 0 0]] : List (List Value)).flatten.toArray 26 := IsBlk.new _ _ _
  have hb7 : Below w7.heap.size w7 (w7.alloc (.cells #[.int .u8 2, .bool false, .int .i64 1, .string (bs []), .slice none 0 0, .slice none 0 0] 26)) := (Below.refl _ _).alloc (Nat.le_refl _) _
  have HG7 := Lib.hid hg7
  have HA7 := Lib.hid hb7
  clear hg7 hb7
  go_wp2_with fail
  go_at_call 13
  refine (list_any _ 1 1 _).mono ?_
  rintro e' w8 ⟨rfl, hb0⟩
  have hb := below_ext HA7.out hb0
  have HB8 := Lib.hid (HB7.out.trans (hb.mono hz7))
  have hz8 := HB8.out.size
  have HX8 := Lib.hid (HX7.out.ext hb)
  have HV8 := Lib.hid (HV7.out.ext hb)
  have HY8 := Lib.hid (HY7.out.ext hb)
  have HG8 := Lib.hid (HG7.out.ext hb0)
  clear hb hb0 HG7
  go_wp2_with fail
  go_at_call 28
  refine (whole_any 1 _).mono ?_
  rintro e' w9 ⟨rfl, hb⟩
  have HB9 := Lib.hid (HB8.out.trans (hb.mono hz8))
  have hz9 := HB9.out.size
  have HX9 := Lib.hid (HX8.out.ext hb)
  have HV9 := Lib.hid (HV8.out.ext hb)
  have HY9 := Lib.hid (HY8.out.ext hb)
  have HG9 := Lib.hid (HG8.out.ext hb)
  clear hb
  go_wp2_with fail
  go_at_call 28
  refine (whole_any 0 _).mono ?_
  rintro e' w10 ⟨rfl, hb⟩
  have HB10 := Lib.hid (HB9.out.trans (hb.mono hz9))
  have hz10 := HB10.out.size
  have HX10 := Lib.hid (HX9.out.ext hb)
  have HV10 := Lib.hid (HV9.out.ext hb)
  have HY10 := Lib.hid (HY9.out.ext hb)
  have HG10 := Lib.hid (HG9.out.ext hb)
  clear hb
  have hg10 : IsBlk (w10.alloc (.cells #[.int .u8 2, .bool false, .int .i64 1, .string (bs []), .slice none 0 0, .slice none 0 0, .int .u8 2, .bool false, .int .i64 0, .string (bs []), .slice none 0 0, .slice none 0 0] 26)) w10.heap.size ([[.int .u8 2, .bool false, .int .i64 1, .string (bs []), .slice none 0 0, .slice none 0 0], [.int .u8 2, .bool false, .int .i64 0, .string (bs []), .slice none 0 0, .slice none 0 0]] : List (List Value)).flatten.toArray 26 := IsBlk.new _ _ _
  have hb10 : Below w10.heap.size w10 (w10.alloc (.cells #[.int .u8 2, .bool false, .int .i64 1, .string (bs []), .slice none 0 0, .slice none 0 0, .int .u8 2, .bool false, .int .i64 0, .string (bs []), .slice none 0 0, .slice none 0 0] 26)) := (Below.refl _ _).alloc (Nat.le_refl _) _
  have HH10 := Lib.hid hg10
  have HA10 := Lib.hid hb10
  clear hg10 hb10
  go_wp2_with fail
  go_at_call 13
  refine (list_any _ 2 2 _).mono ?_
  rintro e' w11 ⟨rfl, hb0⟩
  have hb := below_ext HA10.out hb0
  have HB11 := Lib.hid (HB10.out.trans (hb.mono hz10))
  have hz11 := HB11.out.size
  have HX11 := Lib.hid (HX10.out.ext hb)
  have HV11 := Lib.hid (HV10.out.ext hb)
  have HY11 := Lib.hid (HY10.out.ext hb)
  have hcmp : Calls Tryd.prog 20 #[.agg #[.int .u8 5, .bool false, .int .i64 0, .string (bs []), .slice (some ⟨w7.heap.size, 0, none⟩) 1 1, .slice none 0 0], .agg #[.int .u8 5, .bool false, .int .i64 0, .string (bs []), .slice (some ⟨w10.heap.size, 0, none⟩) 2 2, .slice none 0 0]] w11 fun e' w' => e' = .returned (.int .i64 (-1)) ∧ Below w11.heap.size w11 w' := by
    have h1 : HasL (fun _ => True) w11 (some ⟨w7.heap.size, 0, none⟩) [wholeV 1] := hasL_blk (HG10.out.ext hb) trivial rfl (fun i hi _ => by
      obtain rfl : i = 0 := by have : i < 1 := hi; omega
      exact flat_has _ _ 2 (by omega) false 1 (by omega) (by omega) [] (by simp))
    have h2 : HasL (fun _ => True) w11 (some ⟨w10.heap.size, 0, none⟩) [wholeV 1, wholeV 0] := hasL_blk (HH10.out.ext hb0) trivial rfl (fun i hi _ => by
      match i, hi with
      | 0, _ => exact flat_has _ _ 2 (by omega) false 1 (by omega) (by omega) [] (by simp)
      | 1, _ => exact flat_has _ _ 2 (by omega) false 0 (by omega) (by omega) [] (by simp))
    have h := cmp_any (listV [wholeV 1]) (listV [wholeV 1, wholeV 0]) _ _ _ _ w11 (list_has (c := 1) h1 (by simp) (by simp) (by unfold maxLen; omega)) (list_has (c := 2) h2 (by simp) (by simp) (by unfold maxLen; omega))
    rw [cmp_2] at h
    exact h
  have HCMP := Lib.hid hcmp
  clear hb hb0 hcmp HG10 HH10 HG9 HG8
  go_wp2_with fail
  go_at_call 20
  refine HCMP.out.mono ?_
  rintro e' w12 ⟨rfl, hb⟩
  have HB12 := Lib.hid (HB11.out.trans (hb.mono hz11))
  have hz12 := HB12.out.size
  have hx12 := HX11.out.ext hb
  have hy12 := HY11.out.ext hb
  have HV12 := Lib.hid (HV11.out.ext hb)
  have x0 := hx12.cell (i := 0) rfl
  have x1 := hx12.cell (i := 1) rfl
  have x2 := hx12.cell (i := 2) rfl
  have x3 := hx12.cell (i := 3) rfl
  have x4 := hx12.cell (i := 4) rfl
  have x5 := hx12.cell (i := 5) rfl
  have n2 := hy12.cell (i := 2) rfl
  have hlx := hx12.lt
  have hly := hy12.lt
  clear hb hx12 hy12
  have hcnt : Calls Tryd.prog 12 #[.agg #[.int .u8 6, .bool false, .int .i64 0, .string (bs []), .slice pl3 0 cl3, .slice pf3 1 cf3]] w12 fun e' w' => e' = .returned (.int .i64 3) ∧ Below w12.heap.size w12 w' := by
    have h := count_any sV _ _ w12 HV12.out (by rw [count_s]; omega)
    rw [count_s] at h
    exact h
  have HCNT := Lib.hid hcnt
  clear hcnt
  go_wp2_with fail
  go_at_call 12
  refine HCNT.out.mono ?_
  rintro e' w13 ⟨rfl, hb⟩
  have HB13 := Lib.hid (HB12.out.trans (hb.mono hz12))
  have hz13 := HB13.out.size
  clear hb
  have hchk : Calls Tryd.prog 18 #[.agg #[.int .u8 0, .bool false, .int .i64 1, .string ⟨#[]⟩, .slice none 0 0, .slice none 0 0]] w13 fun e' w' => e' = .returned (.int .i64 5) ∧ Below w13.heap.size w13 w' := by
    have h := check_any (.mk 0 false 1 [] [] []) (fun _ => True) _ w13 (flat_has _ _ 0 (by omega) false 1 (by omega) (by omega) [] (by simp)) (U8T_ext HU.out HB13.out)
    rw [check_1] at h
    exact h
  have HCHK := Lib.hid hchk
  clear hchk
  go_wp2_with fail
  go_at_call 18
  refine HCHK.out.mono ?_
  rintro e' w14 ⟨rfl, hb⟩
  have HB14 := Lib.hid (HB13.out.trans (hb.mono hz13))
  clear hb
  go_wp2
  go_ret
  exact ⟨rfl, HB14.out⟩
end Go.Proofs.YthcojmpigdojoaaDoor

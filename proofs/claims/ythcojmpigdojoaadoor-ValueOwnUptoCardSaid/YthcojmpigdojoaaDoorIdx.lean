/- slices.IndexFunc over fields with value's closures: a name is met, a name is above; value.named. Condition: the fields lie in memory. -/
import Derived.Test.YthcojmpigdojoaaDoorInRow
import Derived.Test.YthcojmpigdojoaaDoorStr
import Derived.WalkLawsBesides
import Derived.Outline
import Derived.Deep.DeepCutAuto
set_option linter.unusedVariables false
set_option linter.unusedSimpArgs false
namespace Go.Proofs.YthcojmpigdojoaaDoor
open Go Go.RowKit Go.BigFrame
set_option maxRecDepth 100000

/-- The place of the first name of which something holds; -1: there is none. -/
def idxI (P : List UInt8 → Bool) : Nat → List (List UInt8 × DVal) → Int
  | _, [] => -1
  | i, p :: f => if P p.1 then (i : Int) else idxI P (i + 1) f
theorem idxI_drop (P : List UInt8 → Bool) {f : List (List UInt8 × DVal)} {i : Nat} (h : i < f.length) : idxI P i (f.drop i) = if P f[i].1 then (i : Int) else idxI P (i + 1) (f.drop (i + 1)) := by
  rw [List.drop_eq_getElem_cons h, idxI]
def isName (name x : List UInt8) : Bool := x == name
def isAbove (name x : List UInt8) : Bool := !Op.bytesLess x name && !isName name x
set_option maxHeartbeats 4000000 in
theorem cl_named (name x : List UInt8) (v : DVal) (S : Nat → Prop) (cs : List Value) (g : Nat) (w : World) (hv : HasVal S w v cs) (hgl : g < w.heap.size) (hg : w.cell? ⟨g, 0, none⟩ = some (.string (bs name))) :
    Calls Tryd.prog 53 #[.agg (Value.string (bs x) :: cs).toArray, .pointer (some ⟨g, 0, none⟩)] w fun e' w' => e' = .returned (.bool (isName name x)) ∧ Below w.heap.size w w' := by
  obtain ⟨E, hE⟩ : ∃ E, E = isName name x := ⟨_, rfl⟩
  rw [← hE]
  have hxe : ((bs x).toList == (bs name).toList) = isName name x := by rw [tl_bs, tl_bs]; rfl
  have hxl : Op.bytesLess (bs x).toList (bs name).toList = Op.bytesLess x name := by rw [tl_bs, tl_bs]
  obtain ⟨k1, b1, n1, s1, l1, f1⟩ := v
  obtain ⟨pl1, cl1, pf1, cf1, rfl, h1⟩ := hasVal_mk.1 hv
  clear hv h1
  show Calls Tryd.prog 53 #[.agg #[.string (bs x), .int .u8 (k1 : Int), .bool b1, .int .i64 n1, .string (bs s1), .slice pl1 l1.length cl1, .slice pf1 f1.length cf1], .pointer (some ⟨g, 0, none⟩)] w _
  have hb0 : Below w.heap.size w (w.alloc (.cells #[.string (bs x), .int .u8 (k1 : Int), .bool b1, .int .i64 n1, .string (bs s1), .slice pl1 l1.length cl1, .slice pf1 f1.length cf1] 38)) := (Below.refl _ _).alloc (Nat.le_refl _) _
  have HB0 := Lib.hid hb0
  have HE := Lib.hid hE
  clear hb0 hE
  go_enter Tryd.func53, Tryd.ntmps53
  go_wp2
  go_ret
  exact ⟨by rw [HE.out]; first | rfl | (rw [← hxe]; done) | (simp [isAbove, hxe, hxl]; done), HB0.out⟩
set_option maxHeartbeats 4000000 in
theorem idx_named (name : List UInt8) (f : List (List UInt8 × DVal)) (S : Nat → Prop) (pf : Option Addr) (cf g : Nat) (w : World) (hF : HasF S w pf f) (hlf : f.length ≤ 1073741824) (hgl : g < w.heap.size) (hg : w.cell? ⟨g, 0, none⟩ = some (.string (bs name))) :
    Calls Tryd.prog 30 #[.slice pf f.length cf, .func (.func 53) #[] #[.pointer (some ⟨g, 0, none⟩)]] w fun e' w' => e' = .returned (.int .i64 (idxI (isName name) 0 f)) ∧ Below w.heap.size w w' := by
  obtain ⟨R, hR⟩ : ∃ R, R = idxI (isName name) 0 f := ⟨_, rfl⟩
  rw [← hR]
  have HF := Lib.hid hF
  have HR := Lib.hid hR
  have HG := Lib.hid hg
  clear hF hR hg
  go_enter Tryd.func30, Tryd.ntmps30
  go_wp2
  go_loopw [8] (fun i wr => ∃ j : Nat, i = .int .i64 (j : Int) ∧ j ≤ f.length ∧ idxI (isName name) j (f.drop j) = R ∧ Below w.heap.size w wr) (fun i _ => f.length - (intOf i).toNat)
  case atStart => exact ⟨0, rfl, Nat.zero_le _, HR.out.symm, Below.refl _ _⟩
  case round =>
  clear HR
  obtain ⟨j, rfl, hj, hrel, hbw⟩ := hrel
  have HREL := Lib.hid hrel
  have HBW := Lib.hid hbw
  clear hrel hbw
  by_cases hlt : j < f.length
  · have hdr := idxI_drop (isName name) hlt
    obtain ⟨g1, o1, cs1, hp1, ⟨hx1, hc1⟩, hv1⟩ := (HF.out.ext HBW.out) j hlt
    generalize f[j] = u1 at hv1 hc1 hx1 hdr
    obtain ⟨x1, v1⟩ := u1
    simp only [] at hv1 hc1 hx1 hdr
    obtain ⟨k1, b1, n1, s1, l1, f1⟩ := v1
    have HV1 := Lib.hid hv1
    obtain ⟨pl1, cl1, pf1, cf1, rfl, hrr1⟩ := hasVal_mk.1 hv1
    obtain ⟨d0, d1, d2, d3, d4, d5, d6⟩ := hc1.seven
    have hg1 := hc1.2.1
    have hgl2 : g < wr.heap.size := Nat.lt_of_lt_of_le hgl HBW.out.size
    have HCL := Lib.hid (cl_named name x1 (.mk k1 b1 n1 s1 l1 f1) _ _ g wr HV1.out hgl2 ((HBW.out.cell (p := ⟨g, 0, none⟩) hgl).trans HG.out))
    obtain ⟨E, hE⟩ : ∃ E, E = isName name x1 := ⟨_, rfl⟩
    rw [← hE] at HCL hdr
    have HDR := Lib.hid hdr
    clear hv1 hc1 hrr1 hdr hE
    subst hp1
    go_wp2_with fail
    go_at_call 53
    refine HCL.out.mono ?_
    rintro e' w1 ⟨rfl, hb⟩
    have HB1 := Lib.hid (below_ext HBW.out hb)
    clear hb d0 d1 d2 d3 d4 d5 d6
    cases E
    · have HREL2 : Hid (idxI (isName name) (j + 1) (f.drop (j + 1)) = R) := Lib.hid (by have h := HDR.out; rw [if_neg (by simp)] at h; rw [← h]; exact HREL.out)
      go_wp2
      go_roundw
      case rel => exact ⟨j + 1, by go_num, hlt, HREL2.out, HB1.out⟩
      case measure => simp [intOf]; omega
    · have hr : R = (j : Int) := by have h := HDR.out; rw [if_pos rfl] at h; rw [← h]; exact HREL.out.symm
      have HR2 := Lib.hid hr
      clear hr
      go_wp2
      go_ret
      exact ⟨by rw [HR2.out]; rfl, HB1.out⟩
  · have hr : R = -1 := by
      rw [← HREL.out, List.drop_eq_nil_of_le (by omega)]
      rfl
    have HR2 := Lib.hid hr
    clear hr
    go_wp2
    go_ret
    exact ⟨by rw [HR2.out]; rfl, HBW.out⟩
set_option maxHeartbeats 4000000 in
theorem cl_above (name x : List UInt8) (v : DVal) (S : Nat → Prop) (cs : List Value) (g : Nat) (w : World) (hv : HasVal S w v cs) (hgl : g < w.heap.size) (hg : w.cell? ⟨g, 0, none⟩ = some (.string (bs name))) :
    Calls Tryd.prog 32 #[.agg (Value.string (bs x) :: cs).toArray, .pointer (some ⟨g, 0, none⟩)] w fun e' w' => e' = .returned (.bool (isAbove name x)) ∧ Below w.heap.size w w' := by
  obtain ⟨E, hE⟩ : ∃ E, E = isAbove name x := ⟨_, rfl⟩
  rw [← hE]
  have hxe : ((bs x).toList == (bs name).toList) = isName name x := by rw [tl_bs, tl_bs]; rfl
  have hxl : Op.bytesLess (bs x).toList (bs name).toList = Op.bytesLess x name := by rw [tl_bs, tl_bs]
  obtain ⟨k1, b1, n1, s1, l1, f1⟩ := v
  obtain ⟨pl1, cl1, pf1, cf1, rfl, h1⟩ := hasVal_mk.1 hv
  clear hv h1
  show Calls Tryd.prog 32 #[.agg #[.string (bs x), .int .u8 (k1 : Int), .bool b1, .int .i64 n1, .string (bs s1), .slice pl1 l1.length cl1, .slice pf1 f1.length cf1], .pointer (some ⟨g, 0, none⟩)] w _
  have hb0 : Below w.heap.size w (w.alloc (.cells #[.string (bs x), .int .u8 (k1 : Int), .bool b1, .int .i64 n1, .string (bs s1), .slice pl1 l1.length cl1, .slice pf1 f1.length cf1] 38)) := (Below.refl _ _).alloc (Nat.le_refl _) _
  have HB0 := Lib.hid hb0
  have HE := Lib.hid hE
  clear hb0 hE
  go_enter Tryd.func32, Tryd.ntmps32
  go_wp2
  go_ret
  exact ⟨by rw [HE.out]; first | rfl | (rw [← hxe]; done) | (simp [isAbove, hxe, hxl]; done), HB0.out⟩
set_option maxHeartbeats 4000000 in
theorem idx_above (name : List UInt8) (f : List (List UInt8 × DVal)) (S : Nat → Prop) (pf : Option Addr) (cf g : Nat) (w : World) (hF : HasF S w pf f) (hlf : f.length ≤ 1073741824) (hgl : g < w.heap.size) (hg : w.cell? ⟨g, 0, none⟩ = some (.string (bs name))) :
    Calls Tryd.prog 30 #[.slice pf f.length cf, .func (.func 32) #[] #[.pointer (some ⟨g, 0, none⟩)]] w fun e' w' => e' = .returned (.int .i64 (idxI (isAbove name) 0 f)) ∧ Below w.heap.size w w' := by
  obtain ⟨R, hR⟩ : ∃ R, R = idxI (isAbove name) 0 f := ⟨_, rfl⟩
  rw [← hR]
  have HF := Lib.hid hF
  have HR := Lib.hid hR
  have HG := Lib.hid hg
  clear hF hR hg
  go_enter Tryd.func30, Tryd.ntmps30
  go_wp2
  go_loopw [8] (fun i wr => ∃ j : Nat, i = .int .i64 (j : Int) ∧ j ≤ f.length ∧ idxI (isAbove name) j (f.drop j) = R ∧ Below w.heap.size w wr) (fun i _ => f.length - (intOf i).toNat)
  case atStart => exact ⟨0, rfl, Nat.zero_le _, HR.out.symm, Below.refl _ _⟩
  case round =>
  clear HR
  obtain ⟨j, rfl, hj, hrel, hbw⟩ := hrel
  have HREL := Lib.hid hrel
  have HBW := Lib.hid hbw
  clear hrel hbw
  by_cases hlt : j < f.length
  · have hdr := idxI_drop (isAbove name) hlt
    obtain ⟨g1, o1, cs1, hp1, ⟨hx1, hc1⟩, hv1⟩ := (HF.out.ext HBW.out) j hlt
    generalize f[j] = u1 at hv1 hc1 hx1 hdr
    obtain ⟨x1, v1⟩ := u1
    simp only [] at hv1 hc1 hx1 hdr
    obtain ⟨k1, b1, n1, s1, l1, f1⟩ := v1
    have HV1 := Lib.hid hv1
    obtain ⟨pl1, cl1, pf1, cf1, rfl, hrr1⟩ := hasVal_mk.1 hv1
    obtain ⟨d0, d1, d2, d3, d4, d5, d6⟩ := hc1.seven
    have hg1 := hc1.2.1
    have hgl2 : g < wr.heap.size := Nat.lt_of_lt_of_le hgl HBW.out.size
    have HCL := Lib.hid (cl_above name x1 (.mk k1 b1 n1 s1 l1 f1) _ _ g wr HV1.out hgl2 ((HBW.out.cell (p := ⟨g, 0, none⟩) hgl).trans HG.out))
    obtain ⟨E, hE⟩ : ∃ E, E = isAbove name x1 := ⟨_, rfl⟩
    rw [← hE] at HCL hdr
    have HDR := Lib.hid hdr
    clear hv1 hc1 hrr1 hdr hE
    subst hp1
    go_wp2_with fail
    go_at_call 32
    refine HCL.out.mono ?_
    rintro e' w1 ⟨rfl, hb⟩
    have HB1 := Lib.hid (below_ext HBW.out hb)
    clear hb d0 d1 d2 d3 d4 d5 d6
    cases E
    · have HREL2 : Hid (idxI (isAbove name) (j + 1) (f.drop (j + 1)) = R) := Lib.hid (by have h := HDR.out; rw [if_neg (by simp)] at h; rw [← h]; exact HREL.out)
      go_wp2
      go_roundw
      case rel => exact ⟨j + 1, by go_num, hlt, HREL2.out, HB1.out⟩
      case measure => simp [intOf]; omega
    · have hr : R = (j : Int) := by have h := HDR.out; rw [if_pos rfl] at h; rw [← h]; exact HREL.out.symm
      have HR2 := Lib.hid hr
      clear hr
      go_wp2
      go_ret
      exact ⟨by rw [HR2.out]; rfl, HB1.out⟩
  · have hr : R = -1 := by
      rw [← HREL.out, List.drop_eq_nil_of_le (by omega)]
      rfl
    have HR2 := Lib.hid hr
    clear hr
    go_wp2
    go_ret
    exact ⟨by rw [HR2.out]; rfl, HBW.out⟩
theorem named_any (name : List UInt8) (w : World) : Calls Tryd.prog 31 #[.string (bs name)] w fun e' w' => ∃ g, e' = .returned (.func (.func 53) #[] #[.pointer (some ⟨g, 0, none⟩)]) ∧ g < w'.heap.size ∧ w'.cell? ⟨g, 0, none⟩ = some (.string (bs name)) ∧ Below w.heap.size w w' := by
  have hmf : ∀ (fn : Fn) (first cap : Array Value) (w : World), (Instr.makeFunc fn first cap).run Tryd.prog w = .ok (.func fn first cap) w := fun _ _ _ _ => rfl
  have hb0 : Below w.heap.size w (w.alloc (.cells #[.string (bs name)] 9)) := (Below.refl _ _).alloc (Nat.le_refl _) _
  have hc1 : IsBlk (w.alloc (.cells #[.string (bs name)] 9)) w.heap.size #[.string (bs name)] 9 := IsBlk.new _ _ _
  have HC := Lib.hid hc1
  have HB := Lib.hid hb0
  clear hc1 hb0
  go_enter Tryd.func31, Tryd.ntmps31
  go_wp2
  go_ret
  exact ⟨w.heap.size, rfl, HC.out.lt, HC.out.cell (i := 0) rfl, HB.out⟩
end Go.Proofs.YthcojmpigdojoaaDoor

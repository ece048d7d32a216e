/- sha.Hex: contract. No conditions. -/
import Derived.Test.YtpnahmbhpbdpiaaDoorBuilder
import Derived.Test.YtpnahmbhpbdpiaaDoorShaPure
set_option linter.unusedVariables false
set_option linter.unusedSimpArgs false
namespace Go.Proofs.YtpnahmbhpbdpiaaDoor
open Go Go.RowKit
set_option maxRecDepth 100000

def hexTab : ByteArray := ⟨#[48, 49, 50, 51, 52, 53, 54, 55, 56, 57, 97, 98, 99, 100, 101, 102]⟩
theorem hexTab_size : hexTab.size = 16 := by decide +kernel
@[go_sem high] theorem fold_hexTab : (⟨#[48, 49, 50, 51, 52, 53, 54, 55, 56, 57, 97, 98, 99, 100, 101, 102]⟩ : ByteArray) = hexTab := rfl
def hd (i : Nat) : UInt8 := [48, 49, 50, 51, 52, 53, 54, 55, 56, 57, 97, 98, 99, 100, 101, 102].getD i 0
@[go_sem high] theorem run_index_hexTab {P : Program} (w : World) (t : TypeId) (k : IntKind) (i : Int) (h : P.underlying t = some .string) (h0 : 0 ≤ i) (h1 : i ≤ 15) :
    (Instr.index t (.string hexTab) (.int k i)).run P w = .ok (.int .u8 ((hd i.toNat).toNat)) w := by
  have hi : 0 ≤ i ∧ i < (hexTab.size : Int) := by rw [hexTab_size]; omega
  have h2 : i.toNat < hexTab.size := by rw [hexTab_size]; omega
  rw [run_index_string w t hexTab k i h, dif_pos hi]
  rw [by_at]
  rfl
def hex2 (b : UInt8) : List UInt8 := [hd (b.toNat / 16), hd (b.toNat % 16)]
theorem hexL_eq (l : List UInt8) : hexL l = l.flatMap hex2 := rfl
theorem hexL_step (l : List UInt8) (k : Nat) (h : k < l.length) : hexL (l.take k) ++ [hd ((l.getD k 0).toNat / 16)] ++ [hd ((l.getD k 0).toNat % 16)] = hexL (l.take (k + 1)) := by
  rw [hexL_eq, hexL_eq, List.take_succ_eq_append_getElem h, List.flatMap_append, List.append_assoc]
  congr 1
  rw [List.getD_eq_getElem?_getD, List.getElem?_eq_getElem h]
  rfl
theorem hexL_length (l : List UInt8) : (hexL l).length = 2 * l.length := by
  rw [hexL_eq]
  induction l with
  | nil => rfl
  | cons a l ih => rw [List.flatMap_cons, List.length_append, ih]; simp [hex2]; omega
theorem hexL_take_length (l : List UInt8) (k : Nat) (h : k ≤ l.length) : (hexL (l.take k)).length = 2 * k := by
  rw [hexL_length, List.length_take, Nat.min_eq_left h]
theorem byteCells_one (l : List UInt8) (b : UInt8) : Lib.byteCells l ++ [Value.int .u8 (b.toNat : Int)] = Lib.byteCells (l ++ [b]) := by simp [Lib.byteCells]
theorem byteCells_app (l m : List UInt8) : Lib.byteCells (l ++ m) = Lib.byteCells l ++ Lib.byteCells m := by simp [Lib.byteCells]

set_option maxHeartbeats 1000000 in
theorem hex_any (s : ByteArray) (w : World) (hs : s.size ≤ 35184372088832) :
    Calls Tryd.prog 11 #[.string s] w fun e' w' => e' = .returned (.string (bs (hexL s.data.toList))) ∧ Below w.heap.size w w' := by
  obtain ⟨l, hl⟩ : ∃ l, l = s.data.toList := ⟨_, rfl⟩
  have hln : l.length = s.size := by rw [hl]; exact (ba_size s).symm
  rw [← hl]
  have HL := Lib.hid hl; clear hl
  have HN := Lib.hid hln; clear hln
  have hbld : Lib.IsBuilder 45 5 w.heap.size w.heap.size (Lib.byteCells []) (w.alloc (.cells #[.pointer none, .slice none 0 0] 45)) := Lib.fresh_isBuilder _ _ _
  have HB := Lib.hid hbld; clear hbld
  go_enter Tryd.func11, Tryd.ntmps11
  go_wp2
  go_loopw [7] (fun i wr => ∃ k : Nat, k ≤ s.size ∧ i = .int .i64 k ∧ Below w.heap.size w wr ∧ Lib.IsBuilder 45 5 w.heap.size w.heap.size (Lib.byteCells (hexL (l.take k))) wr) (fun i _ => s.size - (intOf i).toNat)
  case atStart =>
    exact ⟨0, by omega, rfl, (Below.refl _ _).alloc (Nat.le_refl _) _, HB.out⟩
  case round =>
  clear HB
  obtain ⟨k, hk, rfl, hb, hbl⟩ := hrel
  by_cases hlt : k < s.size
  · have hbsz := hb.size
    have HW := Lib.hid hb; clear hb
    have HB := Lib.hid hbl; clear hbl
    have i0 : (k : Int) < (s.size : Int) := by omega
    have hlen := hexL_take_length l k (by rw [HN.out]; omega)
    have hkl : k < l.length := by rw [HN.out]; exact hlt
    have HLE := Lib.hid hlen; clear hlen
    have HKL := Lib.hid hkl; clear hkl
    obtain ⟨x, hx⟩ : ∃ x, x = l.getD k 0 := ⟨_, rfl⟩
    have hxb : (s[k]'hlt).toNat = x.toNat := by
      have := by_at s k hlt
      rw [← HL.out] at this
      have h2 : by_ l k = (x.toNat : Int) := by rw [hx]; rfl
      omega
    have hx0 : (s[k]'hlt).toNat < 256 := (s[k]'hlt).toNat_lt
    have hq1 : ((s[k]'hlt).toNat : Int) / 16 ≤ 15 := by omega
    have hr1 : ((s[k]'hlt).toNat : Int) % 16 ≤ 15 := by omega
    have hr2 : 0 ≤ ((s[k]'hlt).toNat : Int) % 16 := by omega
    have hq2 : 0 ≤ ((s[k]'hlt).toNat : Int) / 16 := by omega
    have HX := Lib.hid hx; clear hx
    have HXB := Lib.hid hxb; clear hxb
    have hbw : w.heap.size ≤ wr.heap.size := hbsz
    go_wp2_with fail
    go_at_call 21
    refine (writeByte_any w.heap.size w.heap.size _ _ _ HB.out (by rw [Lib.byteCells_length, HLE.out]; omega) hbw).mono ?_
    rintro e' w1 ⟨rfl, h1, hb1⟩
    rw [byteCells_one] at h1
    have hw1 : w.heap.size ≤ w1.heap.size := by have := hb1.size; omega
    have HB1 := Lib.hid (show Lib.IsBuilder 45 5 w.heap.size w.heap.size _ w1 from Or.inr h1); clear h1
    have HW1 := Lib.hid (HW.out.trans hb1); clear hb1
    go_wp2_with fail
    go_at_call 21
    refine (writeByte_any w.heap.size w.heap.size _ _ _ HB1.out (by rw [Lib.byteCells_length, List.length_append, HLE.out]; simp; omega) hw1).mono ?_
    rintro e' w2 ⟨rfl, h2, hb2⟩
    rw [byteCells_one] at h2
    have HB2 := Lib.hid (show Lib.IsBuilder 45 5 w.heap.size w.heap.size _ w2 from Or.inr h2); clear h2
    have HW2 := Lib.hid (HW1.out.trans hb2); clear hb2
    go_wp2_with fail
    go_roundw
    case rel =>
      refine ⟨k + 1, by omega, by go_num, HW2.out, ?_⟩
      rw [← hexL_step l k HKL.out, ← HX.out, ← HXB.out]
      exact HB2.out
    case measure => simp [intOf]; omega
  · rw [show (k : Int) = (s.size : Int) by omega]
    obtain rfl : k = s.size := by omega
    have hw1 : w.heap.size ≤ wr.heap.size := hb.size
    rw [← HN.out, List.take_length] at hbl
    have HB := Lib.hid hbl; clear hbl
    have HW := Lib.hid hb; clear hb
    go_wp2_with fail
    go_at_call 22
    refine (Tryd.Builder_String_any w.heap.size w.heap.size _ _ HB.out hw1).mono ?_
    rintro e' w1 ⟨rfl, hb1⟩
    have HW1 := Lib.hid (HW.out.trans hb1); clear hb1
    go_wp2_with fail
    go_ret
    exact ⟨rfl, HW1.out⟩
end Go.Proofs.YtpnahmbhpbdpiaaDoor

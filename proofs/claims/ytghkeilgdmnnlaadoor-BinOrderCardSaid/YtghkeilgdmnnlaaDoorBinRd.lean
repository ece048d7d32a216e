/- bin's reader: cursor.take, cursor.number, reader.many. No conditions. -/
import Derived.Test.YtghkeilgdmnnlaaDoorBinRead
import Derived.Deep.DeepCutAuto
set_option linter.unusedVariables false
set_option linter.unusedSimpArgs false
namespace Go.Proofs.YtghkeilgdmnnlaaDoor
open Go Go.RowKit Go.BigFrame
set_option maxRecDepth 100000

/-- Nothing below B is turned, and of what was there nothing but block g. -/
def Rd (B g : Nat) (w w' : World) : Prop := Below B w w' ∧ w.heap.size ≤ w'.heap.size ∧ ∀ b, b < w.heap.size → b ≠ g → w'.heap[b]? = w.heap[b]?
theorem Rd.refl (B g : Nat) (w : World) : Rd B g w w := ⟨Below.refl _ _, Nat.le_refl _, fun _ _ _ => rfl⟩
theorem Rd.trans {B g : Nat} {a b c : World} (h : Rd B g a b) (k : Rd B g b c) : Rd B g a c :=
  ⟨Below.trans h.1 (k.1.mono (Nat.le_refl _)), Nat.le_trans h.2.1 k.2.1, fun i hi hg => by rw [k.2.2 i (Nat.lt_of_lt_of_le hi h.2.1) hg, h.2.2 i hi hg]⟩
theorem Rd.of_below {B g : Nat} {w w' : World} (h : Below w.heap.size w w') (hB : B ≤ w.heap.size) : Rd B g w w' := ⟨h.mono hB, h.size, fun b hb _ => h.block b hb⟩
theorem Rd.set {B g o : Nat} {w w' : World} (h : Rd B g w w') (hB : B ≤ g) (u : Value) : Rd B g w (w'.setCell ⟨g, o, none⟩ u) :=
  ⟨below_set h.1 hB, by simpa using h.2.1, fun b hb hg => by rw [Below.heap_setCell _ _ _ _ hg]; exact h.2.2 b hb hg⟩
theorem Rd.blk {B g b : Nat} {w w' : World} {cs : Array Value} {t : TypeId} (h : Rd B g w w') (hb : IsBlk w b cs t) (hg : b ≠ g) : IsBlk w' b cs t := (h.2.2 b hb.lt hg).trans hb

/-- What is left to read, and whether something was wrong. -/
abbrev St := List UInt8 × Bool
def takeP (n : Nat) (st : St) : List UInt8 × St := if st.2 = true ∨ st.1.length < n then ([], (st.1, true)) else (st.1.take n, (st.1.drop n, false))
def numP (st : St) : Nat × St := match readNum st.1 with
  | some (v, k) => (v, if st.2 then st else (st.1.drop k, false))
  | none => (0, (st.1, true))
def manyP (st : St) : Nat × St := if (numP st).2.2 = true ∨ 64 < (numP st).1 then (0, ((numP st).2.1, true)) else numP st
/-- A reader's block. -/
def RdBlk (w : World) (g : Nat) (t : TypeId) (st : St) : Prop := IsBlk w g #[.string (bs st.1), .bool st.2] t
theorem rdBlk_mk {w : World} {g : Nat} {t : TypeId} {l : List UInt8} {b : Bool} (h : IsBlk w g #[.string (bs l), .bool b] t) : RdBlk w g t (l, b) := h
set_option maxHeartbeats 1000000 in
theorem take_any (B g : Nat) (t : TypeId) (n : Nat) (st : St) (w : World) (hB : B ≤ g) (h : RdBlk w g t st) (hl : st.1.length ≤ 281474976710656) (hn : n < 18446744073709551616) :
    Calls Tryd.prog 48 #[.pointer (some ⟨g, 0, none⟩), .int .u64 n] w fun e' w' => e' = .returned (.string (bs (takeP n st).1)) ∧ RdBlk w' g t (takeP n st).2 ∧ Rd B g w w' := by
  obtain ⟨l, bad⟩ := st
  have hsz := bs_size l
  simp only [] at hl
  have hblk : IsBlk w g #[.string (bs l), .bool bad] t := h
  have c0 : w.cell? ⟨g, 0, none⟩ = some (.string (bs l)) := hblk.cell rfl
  have c1 : w.cell? ⟨g, 1, none⟩ = some (.bool bad) := hblk.cell rfl
  have f0 : w.frozen? ⟨g, 0, none⟩ = false := hblk.frozen 0
  have f1 : w.frozen? ⟨g, 1, none⟩ = false := hblk.frozen 1
  have HK := Lib.hid hblk
  clear hblk h
  obtain ⟨R, hR⟩ : ∃ R, R = takeP n (l, bad) := ⟨_, rfl⟩
  rw [← hR]
  have HR := Lib.hid hR; clear hR
  cases bad
  · by_cases hlt : l.length < n
    · have hltI : (l.length : Int) < (n : Int) := by omega
      have hr : R = ([], (l, true)) := by rw [HR.out, takeP, if_pos (Or.inr hlt)]
      clear HR
      subst hr
      go_enter Tryd.func48, Tryd.ntmps48
      go_wp2
      go_ret
      exact ⟨rfl, rdBlk_mk (by simpa using HK.out.set 1 (.bool true)), (Rd.refl _ _ _).set hB _⟩
    · have hltI : (n : Int) ≤ (l.length : Int) := by omega
      have hr : R = (l.take n, (l.drop n, false)) := by rw [HR.out, takeP, if_neg (by simp; omega)]
      clear HR
      subst hr
      have he1 : (bs l).extract 0 n = bs (l.take n) := bs_head l n
      have he2 : (bs l).extract n l.length = bs (l.drop n) := by rw [bs_extract, List.take_length]
      have HE1 := Lib.hid he1
      have HE2 := Lib.hid he2
      clear he1 he2
      go_enter Tryd.func48, Tryd.ntmps48
      go_wp2
      go_ret
      exact ⟨by rw [← HE1.out]; rfl, rdBlk_mk (by rw [← HE2.out]; simpa using HK.out.set 0 (.string ((bs l).extract n l.length))), (Rd.refl _ _ _).set hB _⟩
  · have hr : R = ([], (l, true)) := by rw [HR.out, takeP, if_pos (Or.inl rfl)]
    clear HR
    subst hr
    go_enter Tryd.func48, Tryd.ntmps48
    go_wp2
    go_ret
    exact ⟨rfl, rdBlk_mk (by simpa using HK.out.set 1 (.bool true)), (Rd.refl _ _ _).set hB _⟩
theorem takeP_len (n : Nat) (st : St) : (takeP n st).2.1.length ≤ st.1.length := by
  unfold takeP
  split
  · exact Nat.le_refl _
  · simp
theorem readNum_some {l : List UInt8} {v k : Nat} (h : readNum l = some (v, k)) : numL v = l.take k ∧ k ≤ l.length ∧ 1 ≤ k ∧ k ≤ 10 := by
  have := readN_pos 10 true l v k h
  exact ⟨this.2.1, this.2.2.1, this.2.2.2.1, this.2.2.2.2⟩
theorem readN_lt : ∀ (k : Nat) (first : Bool) (s : List UInt8) (v c : Nat), k ≤ 10 → readN first k s = some (v, c) → v < 2 * 128 ^ (k - 1) := by
  intro k
  induction k with
  | zero => intro first s v c _ h; cases h
  | succ k ih =>
    intro first s v c hk h
    cases s with
    | nil => cases h
    | cons b s =>
      rw [readN] at h
      by_cases hb : b.toNat < 128
      · rw [if_pos hb] at h
        by_cases hc : (k = 0 ∧ 1 < b.toNat) ∨ (first = false ∧ b.toNat = 0)
        · rw [if_pos hc] at h; cases h
        · rw [if_neg hc] at h
          simp only [Option.some.injEq, Prod.mk.injEq] at h
          obtain ⟨rfl, rfl⟩ := h
          by_cases h0 : k = 0
          · subst h0; simp; omega
          · have : 128 ^ 1 ≤ 128 ^ k := Nat.pow_le_pow_right (by omega) (by omega)
            rw [show k + 1 - 1 = k by omega]
            omega
      · rw [if_neg hb] at h
        rw [Option.map_eq_some_iff] at h
        obtain ⟨p, hp, he⟩ := h
        simp only [Prod.mk.injEq] at he
        obtain ⟨rfl, rfl⟩ := he
        have hk0 : k ≠ 0 := fun h0 => by subst h0; cases hp
        have := ih false s p.1 p.2 (by omega) hp
        rw [show k + 1 - 1 = (k - 1) + 1 by omega, Nat.pow_succ]
        omega
theorem readNum_lt {l : List UInt8} {v k : Nat} (h : readNum l = some (v, k)) : v < 18446744073709551616 := by
  have := readN_lt 10 true l v k (Nat.le_refl _) h
  simpa using this
theorem numP_lt (st : St) : (numP st).1 < 18446744073709551616 := by
  unfold numP
  split
  · rename_i v k h
    exact readNum_lt h
  · exact (by decide : (0 : Nat) < 18446744073709551616)
theorem numP_len (st : St) : (numP st).2.1.length ≤ st.1.length := by
  unfold numP
  split
  · split
    · exact Nat.le_refl _
    · simp
  · exact Nat.le_refl _
set_option maxHeartbeats 1000000 in
theorem number_any (B g : Nat) (t : TypeId) (st : St) (w : World) (hB : B ≤ g) (h : RdBlk w g t st) (hl : st.1.length ≤ 281474976710656) :
    Calls Tryd.prog 49 #[.pointer (some ⟨g, 0, none⟩)] w fun e' w' => e' = .returned (.int .u64 ((numP st).1 : Int)) ∧ RdBlk w' g t (numP st).2 ∧ Rd B g w w' := by
  obtain ⟨l, bad⟩ := st
  have hsz := bs_size l
  simp only [] at hl
  have hblk : IsBlk w g #[.string (bs l), .bool bad] t := h
  have c0 : w.cell? ⟨g, 0, none⟩ = some (.string (bs l)) := hblk.cell rfl
  have c1 : w.cell? ⟨g, 1, none⟩ = some (.bool bad) := hblk.cell rfl
  have f1 : w.frozen? ⟨g, 1, none⟩ = false := hblk.frozen 1
  have HK := Lib.hid hblk
  clear hblk h
  obtain ⟨R, hR⟩ : ∃ R, R = numP (l, bad) := ⟨_, rfl⟩
  rw [← hR]
  cases hrn : readNum l with
  | none =>
    rw [numP] at hR
    simp only [hrn] at hR
    subst hR
    have HN := Lib.hid hrn
    clear hrn
    cases bad
    all_goals
      go_enter Tryd.func49, Tryd.ntmps49
      go_wp2_with fail
      go_at_call 16
      refine (bin_readNumber_any (bs l) w (by omega)).mono ?_
      rintro e' w1 ⟨he, rfl⟩
      rw [bs_toList, HN.out, rdP] at he
      subst he
      go_wp2_with fail
      go_at_call 48
      refine (take_any B g t 0 (l, true) _ hB (rdBlk_mk (by simpa using HK.out.set 1 (.bool true))) hl (by omega)).mono ?_
      rintro e' w2 ⟨rfl, hb, hrd⟩
      have HB := Lib.hid hb
      have HR2 := Lib.hid (((Rd.refl B g _).set hB (.bool true)).trans hrd)
      clear hb hrd
      go_wp2
      go_ret
      exact ⟨rfl, by simpa [takeP] using HB.out, HR2.out⟩
  | some p =>
    obtain ⟨v, k⟩ := p
    have hk := readNum_some hrn
    have hv := readNum_lt hrn
    rw [numP] at hR
    simp only [hrn] at hR
    subst hR
    have HN := Lib.hid hrn
    have hk10 := hk.2.2.2
    have hkl := hk.2.1
    clear hrn hk
    cases bad
    · go_enter Tryd.func49, Tryd.ntmps49
      go_wp2_with fail
      go_at_call 16
      refine (bin_readNumber_any (bs l) w (by omega)).mono ?_
      rintro e' w1 ⟨he, rfl⟩
      rw [bs_toList, HN.out, rdP] at he
      subst he
      go_wp2_with fail
      go_at_call 48
      refine (take_any B g t k (l, false) _ hB (rdBlk_mk (by simpa using HK.out.set 1 (.bool false))) hl (by omega)).mono ?_
      rintro e' w2 ⟨rfl, hb, hrd⟩
      have HB := Lib.hid hb
      have HR2 := Lib.hid (((Rd.refl B g _).set hB (.bool false)).trans hrd)
      clear hb hrd
      go_wp2
      go_ret
      exact ⟨rfl, by have := HB.out; rw [takeP, if_neg (by simp; omega)] at this; exact this, HR2.out⟩
    · go_enter Tryd.func49, Tryd.ntmps49
      go_wp2_with fail
      go_at_call 16
      refine (bin_readNumber_any (bs l) w (by omega)).mono ?_
      rintro e' w1 ⟨he, rfl⟩
      rw [bs_toList, HN.out, rdP] at he
      subst he
      go_wp2_with fail
      go_at_call 48
      refine (take_any B g t k (l, true) _ hB (rdBlk_mk (by simpa using HK.out.set 1 (.bool true))) hl (by omega)).mono ?_
      rintro e' w2 ⟨rfl, hb, hrd⟩
      have HB := Lib.hid hb
      have HR2 := Lib.hid (((Rd.refl B g _).set hB (.bool true)).trans hrd)
      clear hb hrd
      go_wp2
      go_ret
      exact ⟨rfl, by have := HB.out; rw [takeP, if_pos (Or.inl rfl)] at this; exact this, HR2.out⟩
theorem manyP_len (st : St) : (manyP st).2.1.length ≤ st.1.length := by
  unfold manyP
  split <;> exact numP_len st
theorem manyP_le (st : St) : (manyP st).1 ≤ 64 := by
  unfold manyP
  split <;> omega
set_option maxHeartbeats 1000000 in
theorem many_any (B g : Nat) (st : St) (w : World) (hB : B ≤ g) (h : RdBlk w g 56 st) (hl : st.1.length ≤ 281474976710656) :
    Calls Tryd.prog 50 #[.pointer (some ⟨g, 0, none⟩)] w fun e' w' => e' = .returned (.int .i64 ((manyP st).1 : Int)) ∧ RdBlk w' g 56 (manyP st).2 ∧ Rd B g w w' := by
  have HH := Lib.hid h; clear h
  obtain ⟨R, hR⟩ : ∃ R, R = manyP st := ⟨_, rfl⟩
  rw [← hR]
  have hn64 := numP_lt st
  go_enter Tryd.func50, Tryd.ntmps50
  go_wp2_with fail
  go_at_call 49
  refine (number_any B g _ st w hB HH.out hl).mono ?_
  rintro e' w1 ⟨rfl, hb, hrd⟩
  rw [manyP] at hR
  obtain ⟨n, l1, bad1, hnp⟩ : ∃ n l1 bad1, numP st = (n, l1, bad1) := ⟨_, _, _, rfl⟩
  rw [hnp] at hb hR hn64 ⊢
  simp only [] at hb hR hn64 ⊢
  have hblk : IsBlk w1 g #[.string (bs l1), .bool bad1] 56 := hb
  have c1 : w1.cell? ⟨g, 1, none⟩ = some (.bool bad1) := hblk.cell rfl
  have f1 : w1.frozen? ⟨g, 1, none⟩ = false := hblk.frozen 1
  have HK := Lib.hid hblk
  have HRD := Lib.hid hrd
  have HR := Lib.hid hR
  clear hb hblk hrd hR hnp
  cases bad1
  · by_cases h64 : 64 < n
    · have hI : (64 : Int) < (n : Int) := by omega
      have hr : R = (0, (l1, true)) := by rw [HR.out, if_pos (Or.inr h64)]
      clear HR
      subst hr
      go_wp2
      go_ret
      exact ⟨rfl, rdBlk_mk (by simpa using HK.out.set 1 (.bool true)), HRD.out.set hB _⟩
    · have hI : (n : Int) ≤ 64 := by omega
      have hd : decide ((64 : Int) < (n : Int)) = false := decide_eq_false (by omega)
      have hr : R = (n, (l1, false)) := by rw [HR.out, if_neg (by simp; omega)]
      clear HR
      subst hr
      go_wp2
      go_ret
      exact ⟨rfl, rdBlk_mk (by simpa using HK.out.set 1 (.bool false)), HRD.out.set hB _⟩
  · have hr : R = (0, (l1, true)) := by rw [HR.out, if_pos (Or.inl rfl)]
    clear HR
    subst hr
    go_wp2
    go_ret
    exact ⟨rfl, rdBlk_mk (by simpa using HK.out.set 1 (.bool true)), HRD.out.set hB _⟩
end Go.Proofs.YtghkeilgdmnnlaaDoor

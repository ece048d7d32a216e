/- codicilref02.Utf: a text's runes. No conditions. -/
import Derived.Test.YthcojmpigdojoaaDoorChkPure
import Derived.Laws.RangeAny
import Derived.Lib.TrimUEq
import Derived.Lib.ValidLaws
set_option linter.unusedVariables false
set_option linter.unusedSimpArgs false
namespace Go.Proofs.YthcojmpigdojoaaDoor
open Go Go.RowKit Go.BigFrame
set_option maxRecDepth 100000

theorem dec_fffd (n b0 b1 b2 b3 : Nat) (h0 : b0 < 256) (h1 : b1 < 256) (h2 : b2 < 256) (h3 : b3 < 256) (h : (Lib.decodeN n b0 b1 b2 b3).1 = 65533) :
    (Lib.decodeN n b0 b1 b2 b3).2 = 1 ↔ ¬ (2 < n ∧ b0 = 239 ∧ b1 = 191 ∧ b2 = 189) := by
  unfold Lib.decodeN at h ⊢
  by_cases c0 : b0 < 128
  · rw [if_pos c0] at h ⊢
    simp only [] at h ⊢
    omega
  rw [if_neg c0] at h ⊢
  by_cases c1 : b0 / 32 = 6 ∧ (1 < n ∧ b1 / 64 = 2)
  · rw [if_pos c1] at h ⊢
    split at h <;> rename_i hc
    · simp only [] at h
      omega
    · rw [if_neg hc]
      simp only [true_iff]
      omega
  rw [if_neg c1] at h ⊢
  by_cases c2 : b0 / 16 = 14 ∧ (1 < n ∧ b1 / 64 = 2) ∧ (2 < n ∧ b2 / 64 = 2)
  · rw [if_pos c2] at h ⊢
    split at h <;> rename_i hc
    · rw [if_pos hc]
      simp only [] at h ⊢
      omega
    · rw [if_neg hc]
      simp only [true_iff]
      omega
  rw [if_neg c2] at h ⊢
  by_cases c3 : b0 / 8 = 30 ∧ (1 < n ∧ b1 / 64 = 2) ∧ (2 < n ∧ b2 / 64 = 2) ∧ (3 < n ∧ b3 / 64 = 2)
  · rw [if_pos c3] at h ⊢
    split at h <;> rename_i hc
    · simp only [] at h
      omega
    · rw [if_neg hc]
      simp only [true_iff]
      omega
  rw [if_neg c3] at h ⊢
  simp only [true_iff]
  omega
theorem take3 (l : List UInt8) : (2 < l.length ∧ (l.getD 0 0).toNat = 239 ∧ (l.getD 1 0).toNat = 191 ∧ (l.getD 2 0).toNat = 189) ↔ l.take 3 = [239, 191, 189] := by
  have key : ∀ (a : UInt8) (n : Nat), n < 256 → (a.toNat = n ↔ a = UInt8.ofNat n) := fun a n hn => by
    constructor
    · intro h; rw [← h]; exact (UInt8.ofNat_toNat).symm
    · intro h; rw [h, UInt8.toNat_ofNat']; omega
  match l with
  | [] => simp
  | [a] => simp
  | [a, b] => simp
  | a :: b :: c :: l =>
    have k1 := key a 239 (by decide)
    have k2 := key b 191 (by decide)
    have k3 := key c 189 (by decide)
    simp only [List.length_cons, List.getD_cons_zero, List.getD_cons_succ, List.take_succ_cons, List.take_zero, List.cons.injEq, and_true]
    rw [k1, k2, k3]
    constructor
    · rintro ⟨_, h⟩; exact h
    · intro h; exact ⟨by omega, h⟩
/-- What the reference asks of a rune. -/
theorem utf_step (l : List UInt8) (h : (Lib.decodeL l).1 = 65533) : (Lib.decodeL l).2 = 1 ↔ l.take 3 ≠ [239, 191, 189] := by
  rw [Lib.decodeL_N] at h ⊢
  rw [dec_fffd _ _ _ _ _ (UInt8.toNat_lt _) (UInt8.toNat_lt _) (UInt8.toNat_lt _) (UInt8.toNat_lt _) h, take3]
theorem dec_drop (s : List UInt8) (pos : Nat) : Utf8.decode (bs s) pos = Lib.decodeL (s.drop pos) := (Lib.decodeL_drop (bs s) pos).symm
theorem dec_width (s : List UInt8) (pos : Nat) (h : pos < s.length) : 1 ≤ (Utf8.decode (bs s) pos).2 := by
  have h' : pos < (bs s).size := by rw [bs_size]; exact h
  by_cases ha : ((bs s)[pos]'h').toNat < 128
  · rw [decode_ascii (bs s) pos h' ha]
    exact Nat.le_refl _
  · exact (decode_high (bs s) pos h' (by omega)).2
set_option maxHeartbeats 1000000 in
theorem ref_utf_any (s : List UInt8) (w : World) (hs : s.length ≤ 1099511627776) :
    Calls Tryd.prog 65 #[.string (bs s)] w fun e' w' => e' = .returned (.bool (Lib.validD s)) ∧ Below w.heap.size w w' := by
  have hsz := bs_size s
  obtain ⟨V, hV⟩ : ∃ V, V = Lib.validD s := ⟨_, rfl⟩
  rw [← hV]
  have HV := Lib.hid hV
  clear hV
  go_enter Tryd.func65, Tryd.ntmps65
  go_wp2
  go_loopw [3] (fun _ w' => ∃ pos : Nat, w' = w.iter (bs s) pos ∧ Lib.validD (s.drop pos) = V) (fun _ w' => s.length - w'.iterPos w.heap.size)
  case atStart => exact ⟨0, rfl, HV.out.symm⟩
  case round =>
  obtain ⟨pos, rfl, hv⟩ := hrel
  have HVD := Lib.hid hv
  clear hv
  by_cases hlt : pos < s.length
  · have h' : pos < (bs s).size := by rw [bs_size]; exact hlt
    have hw := dec_width s pos hlt
    have hdl := dec_drop s pos
    have hle := decode_le (bs s) pos
    have hnx : ∀ ty, (Instr.next (.pointer (some ⟨w.heap.size, 0, none⟩)) true ty).run Tryd.prog (w.iter (bs s) pos) = _ := fun ty => run_next_any w (bs s) pos ty h'
    have hne : s.drop pos ≠ [] := fun e => by have := congrArg List.length e; simp at this; omega
    have hst := Lib.validD_step (s.drop pos) hne
    have hus := utf_step (s.drop pos)
    obtain ⟨r, sz, hd⟩ : ∃ r sz, Utf8.decode (bs s) pos = (r, sz) := ⟨_, _, rfl⟩
    rw [← hdl, hd] at hst hus
    rw [hd] at hw hle hnx
    simp only [] at hst hus hw hle hnx
    rw [List.drop_drop] at hst
    clear hdl hd hne h'
    by_cases hr : r = 65533
    · by_cases h3 : (s.drop pos).take 3 = [239, 191, 189]
      · have hs1 : ¬ sz = 1 := fun e => (hus hr).1 e h3
        rw [if_neg (fun h => hs1 h.2)] at hst
        have hl3 : pos + 3 ≤ s.length := by
          have := congrArg List.length h3
          simp at this
          omega
        have hE : ((bs s).extract pos (pos + 3)).toList = [239, 191, 189] := by
          rw [tl_extract, bs_toList, List.drop_take, show pos + 3 - pos = 3 by omega, h3]
        have hlI : (pos : Int) + 3 ≤ (s.length : Int) := by omega
        have HST := Lib.hid hst
        clear hst hus h3 hs1
        subst hr
        go_wp2
        go_roundw
        case rel => exact ⟨pos + sz, rfl, by rw [← HST.out]; exact HVD.out⟩
        case measure =>
          simp
          omega
      · have hs1 : sz = 1 := (hus hr).2 h3
        rw [if_pos ⟨hr, hs1⟩] at hst
        have hVf : V = false := by rw [← HVD.out, hst]
        subst hVf
        by_cases hl3 : pos + 3 ≤ s.length
        · have hE : ¬ ((bs s).extract pos (pos + 3)).toList = [239, 191, 189] := by
            rw [tl_extract, bs_toList, List.drop_take, show pos + 3 - pos = 3 by omega]
            exact h3
          have hlI : (pos : Int) + 3 ≤ (s.length : Int) := by omega
          have hEb : (((bs s).extract pos (pos + 3)).toList == [239, 191, 189]) = false := by simpa using hE
          clear hst hus h3 hs1
          subst hr
          go_wp2
          all_goals first | (exfalso; simp_all; done) | skip
          go_ret
          exact ⟨rfl, (Below.refl _ _).alloc (Nat.le_refl _) _⟩
        · have hlI : (s.length : Int) < (pos : Int) + 3 := by omega
          clear hst hus h3 hs1
          subst hr
          go_wp2
          go_ret
          exact ⟨rfl, (Below.refl _ _).alloc (Nat.le_refl _) _⟩
    · rw [if_neg (fun h => hr h.1)] at hst
      have hrb : ((r : Int) == 65533) = false := by simp; omega
      have HST := Lib.hid hst
      clear hst hus hr
      go_wp2
      go_roundw
      case rel => exact ⟨pos + sz, rfl, by rw [← HST.out]; exact HVD.out⟩
      case measure =>
        simp
        omega
  · have hnx : ∀ ty, (Instr.next (.pointer (some ⟨w.heap.size, 0, none⟩)) true ty).run Tryd.prog (w.iter (bs s) pos) = _ := fun ty => run_next_end w (bs s) pos ty (by rw [bs_size]; exact hlt)
    have hVt : V = true := by rw [← HVD.out, List.drop_eq_nil_of_le (by omega)]; rfl
    subst hVt
    go_wp2
    go_ret
    exact ⟨rfl, (Below.refl _ _).alloc (Nat.le_refl _) _⟩
end Go.Proofs.YthcojmpigdojoaaDoor

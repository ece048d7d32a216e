/- bin.ReadNumber. No conditions. -/
import Derived.Test.YtghkeilgdmnnlaaDoorBinPure
import Derived.Test.YtghkeilgdmnnlaaDoorStr
import Derived.Laws.Bits64b
set_option linter.unusedVariables false
set_option linter.unusedSimpArgs false
namespace Go.Proofs.YtghkeilgdmnnlaaDoor
open Go Go.RowKit Go.BigFrame
set_option maxRecDepth 100000

theorem or_join64 (a x i : Nat) (ha : a < 2 ^ i) (hx : x * 2 ^ i < 18446744073709551616) (ha64 : a < 18446744073709551616) : bits .or .u64 (a : Int) ((x * 2 ^ i : Nat) : Int) = ((a + x * 2 ^ i : Nat) : Int) := by
  rw [bits_or_u64_nat a (x * 2 ^ i) ha64 hx]
  congr 1
  rw [Nat.or_comm, Nat.mul_comm, ← Nat.two_pow_add_eq_or_of_lt ha, Nat.add_comm]
theorem and127 (m : Int) (h0 : 0 ≤ m) (h : m < 256) : bits .and .u8 m 127 = m % 128 := by
  obtain ⟨a, rfl⟩ := Int.eq_ofNat_of_zero_le h0
  have key : ∀ a : Fin 256, bits .and .u8 ((a.val : Nat) : Int) 127 = (a.val : Int) % 128 := by decide +kernel
  exact key ⟨a, by omega⟩
theorem two_seven (k : Nat) : (2 : Nat) ^ (7 * k) = 128 ^ k := by rw [Nat.pow_mul]
theorem pow128 (k : Nat) (hk : k ≤ 9) : 1 ≤ 128 ^ k ∧ 128 ^ k ≤ 9223372036854775808 := by
  match k, hk with
  | 0, _ | 1, _ | 2, _ | 3, _ | 4, _ | 5, _ | 6, _ | 7, _ | 8, _ | 9, _ => decide
theorem step64 (a b k : Nat) (hk : k ≤ 9) (ha : a < 128 ^ k) (hb : b < 256) (h : k < 9 ∨ b % 128 ≤ 1) :
    bits .or .u64 (a : Int) (IntKind.u64.wrap (IntKind.u64.wrap (bits .and .u8 (b : Int) 127) * 2 ^ (7 * k))) = ((a + 128 ^ k * (b % 128) : Nat) : Int) := by
  have hp := pow128 k hk
  have hm : (b % 128) * 2 ^ (7 * k) < 18446744073709551616 := by
    rw [two_seven]
    rcases h with h | h
    · have h8 : 128 ^ k ≤ 72057594037927936 := by
        match k, h with
        | 0, _ | 1, _ | 2, _ | 3, _ | 4, _ | 5, _ | 6, _ | 7, _ | 8, _ => decide
      calc (b % 128) * 128 ^ k ≤ 127 * 128 ^ k := Nat.mul_le_mul_right _ (by omega)
        _ < _ := by omega
    · calc (b % 128) * 128 ^ k ≤ 1 * 128 ^ k := Nat.mul_le_mul_right _ h
        _ < _ := by omega
  have hm2 : (0 : Int) ≤ (b : Int) % 128 ∧ (b : Int) % 128 ≤ 18446744073709551615 := by omega
  rw [and127 _ (by omega) (by omega), IntWalk.u64_in ((b : Int) % 128) hm2]
  have e1 : ((b : Int) % 128 * 2 ^ (7 * k)) = (((b % 128) * 2 ^ (7 * k) : Nat) : Int) := by
    rw [Int.natCast_mul, Int.natCast_emod, Int.natCast_pow]
    rfl
  rw [e1, IntWalk.u64_in _ (by omega), or_join64 a (b % 128) (7 * k) (by rw [two_seven]; exact ha) hm (by omega), two_seven, Nat.mul_comm]
def rdP : Option (Nat × Nat) → Int × Int × Int
  | some (v, c) => ((v : Int), (c : Int), 0)
  | none => (0, 0, 11)
theorem readN_bad {first : Bool} {k : Nat} {b : UInt8} {s : List UInt8} (hb : b.toNat < 128) (h : (k = 0 ∧ 1 < b.toNat) ∨ (first = false ∧ b.toNat = 0)) : readN first (k + 1) (b :: s) = none := by
  rw [readN, if_pos hb, if_pos h]
theorem readN_ok {first : Bool} {k : Nat} {b : UInt8} {s : List UInt8} (hb : b.toNat < 128) (h : ¬ ((k = 0 ∧ 1 < b.toNat) ∨ (first = false ∧ b.toNat = 0))) : readN first (k + 1) (b :: s) = some (b.toNat, 1) := by
  rw [readN, if_pos hb, if_neg h]
theorem readN_more {first : Bool} {k : Nat} {b : UInt8} {s : List UInt8} (hb : ¬ b.toNat < 128) : readN first (k + 1) (b :: s) = (readN false k s).map fun p => (b.toNat % 128 + 128 * p.1, p.2 + 1) := by
  rw [readN, if_neg hb]
theorem readN_nil {first : Bool} {k : Nat} : readN first k [] = none := by cases k <;> rfl
theorem drop_at (s : ByteArray) (k : Nat) (h : k < s.size) : s.data.toList.drop k = s[k] :: s.data.toList.drop (k + 1) := by
  rw [List.drop_eq_getElem_cons (by simpa using h)]
  rfl
/-- What is known of the number when k bytes were read. -/
def RdAt (l : List UInt8) (k : Nat) (a : Int) : Prop := (k < 10 → ∃ a' : Nat, a = a' ∧ a' < 128 ^ k ∧ readNum l = (readN (decide (k = 0)) (10 - k) (l.drop k)).map fun p => (a' + 128 ^ k * p.1, k + p.2)) ∧ (k = 10 → readNum l = none)
theorem rdAt_more {l : List UInt8} {k : Nat} {a : Int} {b : UInt8} (h : RdAt l k a) (hk : k < 10) (hd : l.drop k = b :: l.drop (k + 1)) (hb : 128 ≤ b.toNat) :
    RdAt l (k + 1) (bits .or .u64 a (IntKind.u64.wrap (IntKind.u64.wrap (bits .and .u8 (b.toNat : Int) 127) * 2 ^ (7 * k)))) := by
  obtain ⟨a', rfl, ha, hr⟩ := h.1 hk
  have hb2 := b.toNat_lt
  rw [hd, show 10 - k = (9 - k) + 1 by omega, readN_more (by omega)] at hr
  refine ⟨fun h9 => ⟨_, step64 a' b.toNat k (by omega) ha hb2 (Or.inl (by omega)), ?_, ?_⟩, fun h9 => ?_⟩
  · have hp := pow128 k (by omega)
    have : 128 ^ k * (b.toNat % 128) ≤ 128 ^ k * 127 := Nat.mul_le_mul_left _ (by omega)
    rw [Nat.pow_succ]
    omega
  · rw [hr, Option.map_map, show decide (k + 1 = 0) = false by simp, show 10 - (k + 1) = 9 - k by omega]
    congr 1
    funext p
    simp only [Function.comp, Prod.mk.injEq]
    refine ⟨?_, by omega⟩
    rw [Nat.pow_succ, Nat.mul_add, Nat.mul_assoc]
    omega
  · rw [hr, show 9 - k = 0 by omega]
    rfl
theorem rdAt_bad {l : List UInt8} {k : Nat} {a : Int} {b : UInt8} (h : RdAt l k a) (hk : k < 10) (hd : l.drop k = b :: l.drop (k + 1)) (hb : b.toNat < 128) (hbad : (k = 9 ∧ 1 < b.toNat) ∨ (0 < k ∧ b.toNat = 0)) : readNum l = none := by
  obtain ⟨a', rfl, ha, hr⟩ := h.1 hk
  rw [hr, hd, show 10 - k = (9 - k) + 1 by omega, readN_bad hb (by rcases hbad with h | h; exact Or.inl ⟨by omega, h.2⟩; exact Or.inr ⟨by simp; omega, h.2⟩)]
  rfl
theorem rdAt_ok {l : List UInt8} {k : Nat} {a : Int} {b : UInt8} (h : RdAt l k a) (hk : k < 10) (hd : l.drop k = b :: l.drop (k + 1)) (hb : b.toNat < 128) (hbad : ¬ ((k = 9 ∧ 1 < b.toNat) ∨ (0 < k ∧ b.toNat = 0))) :
    (rdP (readNum l)) = (bits .or .u64 a (IntKind.u64.wrap (IntKind.u64.wrap (bits .and .u8 (b.toNat : Int) 127) * 2 ^ (7 * k))), (k : Int) + 1, 0) := by
  obtain ⟨a', rfl, ha, hr⟩ := h.1 hk
  rw [step64 a' b.toNat k (by omega) ha b.toNat_lt (by omega), hr, hd, show 10 - k = (9 - k) + 1 by omega, readN_ok hb (by
    rintro (h | h)
    · exact hbad (Or.inl ⟨by omega, h.2⟩)
    · have := h.1; simp at this; exact hbad (Or.inr ⟨by omega, h.2⟩))]
  show ((_ : Int), (_ : Int), (0 : Int)) = _
  rw [Nat.mod_eq_of_lt hb]
  rfl
theorem rdAt_end {l : List UInt8} {k : Nat} {a : Int} (h : RdAt l k a) (hk : k ≤ 10) (hd : k = 10 ∨ l.length ≤ k) : readNum l = none := by
  rcases hd with h1 | h1
  · exact h.2 h1
  · by_cases h10 : k = 10
    · exact h.2 h10
    · obtain ⟨a', _, _, hr⟩ := h.1 (by omega)
      rw [hr, List.drop_eq_nil_of_le h1, readN_nil]
      rfl
set_option maxHeartbeats 1000000 in
theorem bin_readNumber_any (s : ByteArray) (w : World) (hs : s.size ≤ 281474976710656) :
    Calls Tryd.prog 16 #[.string s] w fun e' w' => e' = .returned (.tuple #[.int .u64 (rdP (readNum s.data.toList)).1, .int .i64 (rdP (readNum s.data.toList)).2.1, .int .i64 (rdP (readNum s.data.toList)).2.2]) ∧ w = w' := by
  obtain ⟨r, hr⟩ : ∃ r, r = rdP (readNum s.data.toList) := ⟨_, rfl⟩
  rw [← hr]
  have HL := Lib.hid hr; clear hr
  go_enter Tryd.func16, Tryd.ntmps16
  go_wp2
  go_loop [6, 5] (fun i v => ∃ (k : Nat) (a : Int), i = .int .i64 k ∧ v = .int .u64 a ∧ k ≤ 10 ∧ k ≤ s.size ∧ RdAt s.data.toList k a) (fun i _ => 10 - (intOf i).toNat)
  case atStart =>
    refine ⟨0, 0, rfl, rfl, by omega, by omega, ⟨fun _ => ⟨0, rfl, by simp, ?_⟩, fun h => by cases h⟩⟩
    simp [readNum]
  case round =>
  obtain ⟨k, a, rfl, rfl, hk, hks, hrd⟩ := hrel
  have HR := Lib.hid hrd; clear hrd
  by_cases hlt : k < 10 ∧ k < s.size
  · have i0 : (k : Int) < (s.size : Int) := by omega
    have i1 : (k : Int) < 10 := by omega
    have hx0 : (s[k]'hlt.2).toNat < 256 := (s[k]'hlt.2).toNat_lt
    have HD := Lib.hid (drop_at s k hlt.2)
    by_cases hb : s[k].toNat < 128
    · have hbI : ((s[k]'hlt.2).toNat : Int) < 128 := by omega
      by_cases hbad : (k = 9 ∧ 1 < s[k].toNat) ∨ (0 < k ∧ s[k].toNat = 0)
      · have HB := Lib.hid (rdAt_bad HR.out hlt.1 HD.out hb hbad)
        go_wp2
        all_goals first | (exfalso; (try simp only [beq_iff_eq, beq_eq_false_iff_ne, ne_eq] at *); omega) | (have hr := HL.out; rw [HB.out] at hr; exact bodyPost_ret (v := .tuple #[.int .u64 r.1, .int .i64 r.2.1, .int .i64 r.2.2]) (by rw [hr]; simp [results, Tryd.results16, go_sem, rdP] <;> omega) rfl ⟨rfl, rfl⟩) | trace_state
      · have HB := Lib.hid (rdAt_ok HR.out hlt.1 HD.out hb hbad)
        go_wp2
        all_goals first | (exfalso; (try simp only [beq_iff_eq, beq_eq_false_iff_ne, ne_eq] at *); omega) | (have hr := HL.out; rw [HB.out] at hr; exact bodyPost_ret (v := .tuple #[.int .u64 r.1, .int .i64 r.2.1, .int .i64 r.2.2]) (by rw [hr]; simp [results, Tryd.results16, go_sem, rdP] <;> omega) rfl ⟨rfl, rfl⟩) | trace_state
    · have hbI : (128 : Int) ≤ ((s[k]'hlt.2).toNat : Int) := by omega
      go_wp2
      all_goals
        go_round
        case rel => exact ⟨k + 1, _, by go_num, rfl, by omega, by omega, rdAt_more HR.out hlt.1 HD.out (by omega)⟩
        case measure => simp [intOf]; omega
  · have HE := Lib.hid (rdAt_end HR.out hk (by rcases Nat.lt_or_ge k 10 with h | h; exact Or.inr (by rw [← ba_size]; omega); exact Or.inl (by omega)))
    go_wp2
    all_goals first | (exfalso; (try simp only [beq_iff_eq, beq_eq_false_iff_ne, ne_eq] at *); omega) | (have hr := HL.out; rw [HE.out] at hr; exact bodyPost_ret (v := .tuple #[.int .u64 r.1, .int .i64 r.2.1, .int .i64 r.2.2]) (by rw [hr]; simp [results, Tryd.results16, go_sem, rdP] <;> omega) rfl ⟨rfl, rfl⟩) | trace_state
theorem rdAt_nine {l : List UInt8} {a : Int} {b : UInt8} (h : RdAt l 9 a) (hd : l.drop 9 = b :: l.drop 10) (hb : 1 < b.toNat) : readNum l = none := by
  by_cases hb2 : b.toNat < 128
  · exact rdAt_bad h (by omega) hd hb2 (Or.inl ⟨rfl, hb⟩)
  · exact (rdAt_more h (by omega) hd (by omega)).2 rfl
/-- The next number, as the reference reckons it. -/
theorem rdAt_ref {l : List UInt8} {k a : Nat} {b : UInt8} (h : RdAt l k (a : Int)) (hk : k < 10) (hd : l.drop k = b :: l.drop (k + 1)) (h9 : k < 9 ∨ b.toNat ≤ 1) (ha : a < 128 ^ k) :
    RdAt l (k + 1) ((a + 128 ^ k * (b.toNat % 128) : Nat) : Int) ∨ b.toNat < 128 := by
  by_cases hb : b.toNat < 128
  · exact Or.inr hb
  · have := rdAt_more h hk hd (by omega)
    rw [step64 a b.toNat k (by omega) ha b.toNat_lt (by omega)] at this
    exact Or.inl this
theorem rdAt_pre {l : List UInt8} {k a : Nat} {b : UInt8} (h : RdAt l k (a : Int)) (hk : k < 10) (hd : l.drop k = b :: l.drop (k + 1)) (hb : b.toNat < 128) (h9 : k < 9 ∨ b.toNat ≤ 1) (ha : a < 128 ^ k) (hbad : ¬ (0 < k ∧ b.toNat = 0)) :
    readNum l = some (a + 128 ^ k * b.toNat, k + 1) ∧ numL (a + 128 ^ k * b.toNat) = l.take (k + 1) := by
  obtain ⟨a', ha1, ha2, hr⟩ := h.1 hk
  obtain rfl : a = a' := by omega
  rw [hd, show 10 - k = (9 - k) + 1 by omega, readN_ok hb (by
    rintro (h | h)
    · omega
    · have := h.1; simp at this; exact hbad ⟨by omega, h.2⟩)] at hr
  have hr2 : readNum l = some (a + 128 ^ k * b.toNat, k + 1) := hr
  exact ⟨hr2, (readN_pos 10 true l _ _ hr2).2.1⟩
theorem rdAt_not {l : List UInt8} {k n : Nat} (h : readNum l = none) (hn : n < 18446744073709551616) : numL n ≠ l.take (k + 1) := by
  intro e
  have := readNum_numL n hn (l.drop (k + 1))
  rw [e, List.take_append_drop, h] at this
  cases this
set_option maxHeartbeats 1000000 in
theorem ref_readNumber_any (s : ByteArray) (w : World) (hs : s.size ≤ 281474976710656) :
    Calls Tryd.prog 17 #[.string s] w fun e' w' => e' = .returned (.tuple #[.int .u64 (rdP (readNum s.data.toList)).1, .int .i64 (rdP (readNum s.data.toList)).2.1, .int .i64 (rdP (readNum s.data.toList)).2.2]) ∧ Below w.heap.size w w' := by
  obtain ⟨r, hr⟩ : ∃ r, r = rdP (readNum s.data.toList) := ⟨_, rfl⟩
  rw [← hr]
  have HL := Lib.hid hr; clear hr
  go_enter Tryd.func17, Tryd.ntmps17
  go_wp2
  go_loopw [7, 5, 6] (fun i v u wr => ∃ k a U : Nat, i = .int .i64 k ∧ v = .int .u64 a ∧ u = .int .u64 U ∧ k ≤ 9 ∧ k ≤ s.size ∧ U = 128 ^ k ∧ a < 128 ^ k ∧ RdAt s.data.toList k a ∧ Below w.heap.size w wr) (fun i _ _ _ => 10 - (intOf i).toNat)
  case atStart =>
    refine ⟨0, 0, 1, rfl, rfl, rfl, by omega, by omega, rfl, by omega, ⟨fun _ => ⟨0, rfl, by simp, ?_⟩, fun h => by cases h⟩, Below.refl _ _⟩
    simp [readNum]
  case round =>
  obtain ⟨k, a, U, rfl, rfl, rfl, hk, hks, hU, ha, hrd, hbw⟩ := hrel
  have HR := Lib.hid hrd; clear hrd
  have HBW := Lib.hid hbw; clear hbw
  have hp := pow128 k hk
  rw [← hU] at hp ha
  have HU := Lib.hid hU; clear hU
  have i1 : (k : Int) < 10 := by omega
  by_cases hlt : k < s.size
  · have i0 : (k : Int) < (s.size : Int) := by omega
    have HD := Lib.hid (drop_at s k hlt)
    obtain ⟨b, hb⟩ : ∃ b, b = s[k] := ⟨_, rfl⟩
    have hbx : s[k].toNat = b.toNat := by rw [hb]
    have hb256 := b.toNat_lt
    rw [← hb] at HD
    have HB := Lib.hid hb; clear hb
    by_cases h9 : k = 9 ∧ 1 < b.toNat
    · obtain ⟨rfl, h9⟩ := h9
      have h9I : (1 : Int) < (b.toNat : Int) := by omega
      have HE := Lib.hid (rdAt_nine HR.out HD.out h9)
      go_wp2
      have hr := HL.out
      rw [HE.out] at hr
      refine bodyPost_ret (v := .tuple #[.int .u64 r.1, .int .i64 r.2.1, .int .i64 r.2.2]) (by rw [hr]; simp [results, Tryd.results17, go_sem, rdP]) rfl ⟨rfl, HBW.out⟩
    · have hP : U * (b.toNat % 128) ≤ 9223372036854775808 * 127 := Nat.mul_le_mul hp.2 (by omega)
      have hP9 : k < 9 ∨ b.toNat ≤ 1 := by omega
      obtain ⟨P, hPe⟩ : ∃ P, P = U * (b.toNat % 128) := ⟨_, rfl⟩
      have hPb : a + P < 18446744073709551616 ∧ (k < 9 → U * 128 < 18446744073709551616) := by
        rcases hP9 with h | h
        · have h8 : U ≤ 72057594037927936 := by
            rw [HU.out]
            match k, h with
            | 0, _ | 1, _ | 2, _ | 3, _ | 4, _ | 5, _ | 6, _ | 7, _ | 8, _ => decide
          have : U * (b.toNat % 128) ≤ U * 127 := Nat.mul_le_mul_left _ (by omega)
          omega
        · have : U * (b.toNat % 128) ≤ U * 1 := Nat.mul_le_mul_left _ (by omega)
          refine ⟨by omega, fun h9 => ?_⟩
          have h8 : U ≤ 72057594037927936 := by
            rw [HU.out]
            match k, h9 with
            | 0, _ | 1, _ | 2, _ | 3, _ | 4, _ | 5, _ | 6, _ | 7, _ | 8, _ => decide
          omega
      have hmul : IntKind.u64.wrap ((U : Int) * ((b.toNat : Int) % 128)) = (P : Int) := by
        have e : (U : Int) * ((b.toNat : Int) % 128) = ((U * (b.toNat % 128) : Nat) : Int) := by
          rw [Int.natCast_mul, Int.natCast_emod]
          rfl
        rw [e, ← hPe, IntWalk.u64_in _ (by omega)]
      clear hP
      have HPE := Lib.hid hPe; clear hPe
      by_cases hb8 : b.toNat < 128
      · have hbI : (b.toNat : Int) < 128 := by omega
        obtain ⟨m, hm⟩ : ∃ m, m = a + P := ⟨_, rfl⟩
        have hmI : (a : Int) + (P : Int) = (m : Int) := by omega
        have hm64 : m < 18446744073709551616 := by omega
        have HM := Lib.hid hm; clear hm
        have hk1 : (k : Int) + 1 ≤ (s.size : Int) := by omega
        have hcase : (readNum s.data.toList = none ∧ ((bs (numL m)).toList == (s.extract 0 (k + 1)).toList) = false) ∨ (readNum s.data.toList = some (m, k + 1) ∧ ((bs (numL m)).toList == (s.extract 0 (k + 1)).toList) = true) := by
          rw [tl_bs, tl_extract, List.drop_zero]
          by_cases hbad : 0 < k ∧ b.toNat = 0
          · have hn := rdAt_bad HR.out (by omega) HD.out hb8 (Or.inr hbad)
            exact Or.inl ⟨hn, by simpa using rdAt_not hn hm64⟩
          · have h2 := rdAt_pre HR.out (by omega) HD.out hb8 hP9 (by rw [← HU.out]; exact ha) hbad
            have hm2 : m = a + 128 ^ k * b.toNat := by rw [HM.out, HPE.out, ← HU.out, Nat.mod_eq_of_lt hb8]
            rw [← hm2] at h2
            exact Or.inr ⟨h2.1, by simpa using h2.2⟩
        by_cases h9k : k = 9
        · subst h9k
          simp only [Nat.reduceAdd] at hcase
          have hbI1 : (b.toNat : Int) ≤ 1 := by omega
          go_wp2
          refine mix_start [] (Cls wr) (by kernel_rfl) (Cls.of ((Below.refl _ _).drew)) ?_
          refine mix_flt (by kernel_rfl) [0, 2, 3, 4, 5] 2 _ _ (by kernel_rfl) ?_
          simp only [opsAt, List.map_cons, List.map_nil, List.toList_toArray, List.getD_cons_succ, List.getD_cons_zero]
          unfold Cls
          repeat (go_big_quiet_step (fail))
          refine wpQuiet_nil ?_
          (try rw [← Cls_def])
          refine mix_ch (i := 1) (fuel := 1) (by kernel_rfl) _ rfl (fun w1 hw1 => ?_)
          go_wp2_with (go_at_call 19; refine (ref_number_any m _ hm64).mono ?_; rintro e' w' ⟨rfl, hb⟩)
          refine Then.same (hw1.trans hb) ?_
          refine mix_flt (by kernel_rfl) [6] 0 _ _ (by kernel_rfl) ?_
          simp only [opsAt, List.map_cons, List.map_nil, List.toList_toArray, List.getD_cons_succ, List.getD_cons_zero]
          unfold Cls
          repeat (go_big_quiet_step (fail))
          refine wpQuiet_nil ?_
          (try rw [← Cls_def])
          refine mix_end [] (by kernel_rfl) (fun w1 hw1 => ?_)
          refine wpList_nil ?_
          refine Calm.normal ?_
          rcases hcase with ⟨hn, hq⟩ | ⟨hn, hq⟩ <;> have HN := Lib.hid hn <;> clear hn
          · go_wp2
            all_goals first | (exfalso; have hx : (!((bs (numL m)).toList == (s.extract 0 10).toList)) = false := (by assumption); exact absurd ((congrArg not hq).symm.trans hx) (by decide)) | skip
            have hr := HL.out
            rw [HN.out] at hr
            (refine bodyPost_ret (v := .tuple #[.int .u64 r.1, .int .i64 r.2.1, .int .i64 r.2.2]) (by rw [hr]; simp [results, Tryd.results17, go_sem, rdP]) rfl ⟨rfl, HBW.out.trans (hw1.below.mono HBW.out.size)⟩)
          · go_wp2
            all_goals first | (exfalso; have hx : (!((bs (numL m)).toList == (s.extract 0 10).toList)) = true := (by assumption); exact absurd ((congrArg not hq).symm.trans hx) (by decide)) | skip
            have hr := HL.out
            rw [HN.out] at hr
            (refine bodyPost_ret (v := .tuple #[.int .u64 r.1, .int .i64 r.2.1, .int .i64 r.2.2]) (by rw [hr]; simp [results, Tryd.results17, go_sem, rdP]) rfl ⟨rfl, HBW.out.trans (hw1.below.mono HBW.out.size)⟩)
        · have hk9 : ¬ (k : Int) = 9 := by omega
          go_wp2
          refine mix_start [] (Cls wr) (by kernel_rfl) (Cls.of ((Below.refl _ _).drew)) ?_
          refine mix_flt (by kernel_rfl) [0, 2, 3, 4, 5] 2 _ _ (by kernel_rfl) ?_
          simp only [opsAt, List.map_cons, List.map_nil, List.toList_toArray, List.getD_cons_succ, List.getD_cons_zero]
          unfold Cls
          repeat (go_big_quiet_step (fail))
          refine wpQuiet_nil ?_
          (try rw [← Cls_def])
          refine mix_ch (i := 1) (fuel := 1) (by kernel_rfl) _ rfl (fun w1 hw1 => ?_)
          go_wp2_with (go_at_call 19; refine (ref_number_any m _ hm64).mono ?_; rintro e' w' ⟨rfl, hb⟩)
          refine Then.same (hw1.trans hb) ?_
          refine mix_flt (by kernel_rfl) [6] 0 _ _ (by kernel_rfl) ?_
          simp only [opsAt, List.map_cons, List.map_nil, List.toList_toArray, List.getD_cons_succ, List.getD_cons_zero]
          unfold Cls
          repeat (go_big_quiet_step (fail))
          refine wpQuiet_nil ?_
          (try rw [← Cls_def])
          refine mix_end [] (by kernel_rfl) (fun w1 hw1 => ?_)
          refine wpList_nil ?_
          refine Calm.normal ?_
          rcases hcase with ⟨hn, hq⟩ | ⟨hn, hq⟩ <;> have HN := Lib.hid hn <;> clear hn
          · go_wp2
            all_goals first | (exfalso; have hx : (!((bs (numL m)).toList == (s.extract 0 (k + 1)).toList)) = false := (by assumption); exact absurd ((congrArg not hq).symm.trans hx) (by decide)) | skip
            have hr := HL.out
            rw [HN.out] at hr
            (refine bodyPost_ret (v := .tuple #[.int .u64 r.1, .int .i64 r.2.1, .int .i64 r.2.2]) (by rw [hr]; simp [results, Tryd.results17, go_sem, rdP]) rfl ⟨rfl, HBW.out.trans (hw1.below.mono HBW.out.size)⟩)
          · go_wp2
            all_goals first | (exfalso; have hx : (!((bs (numL m)).toList == (s.extract 0 (k + 1)).toList)) = true := (by assumption); exact absurd ((congrArg not hq).symm.trans hx) (by decide)) | skip
            have hr := HL.out
            rw [HN.out] at hr
            (refine bodyPost_ret (v := .tuple #[.int .u64 r.1, .int .i64 r.2.1, .int .i64 r.2.2]) (by rw [hr]; simp [results, Tryd.results17, go_sem, rdP]) rfl ⟨rfl, HBW.out.trans (hw1.below.mono HBW.out.size)⟩)
      · have hbI : (128 : Int) ≤ (b.toNat : Int) := by omega
        have hk9 : ¬ (k : Int) = 9 := by omega
        have hU := hPb.2 (by omega)
        go_wp2
        go_roundw
        case rel =>
          refine ⟨k + 1, a + P, U * 128, by go_num, by go_num, by go_num, by omega, by omega, by rw [HU.out, Nat.pow_succ], ?_, ?_, HBW.out⟩
          · rw [Nat.pow_succ, ← HU.out]
            have : U * (b.toNat % 128) ≤ U * 127 := Nat.mul_le_mul_left _ (by omega)
            have := HPE.out
            omega
          · have := rdAt_ref HR.out (by omega) HD.out hP9 (by rw [← HU.out]; exact ha)
            rw [← HU.out, ← HPE.out] at this
            exact this.resolve_right hb8
        case measure => simp [intOf]; omega
  · have HE := Lib.hid (rdAt_end HR.out (by omega) (Or.inr (by rw [← ba_size]; omega)))
    go_wp2
    have hr := HL.out
    rw [HE.out] at hr
    refine bodyPost_ret (v := .tuple #[.int .u64 r.1, .int .i64 r.2.1, .int .i64 r.2.2]) (by rw [hr]; simp [results, Tryd.results17, go_sem, rdP]) rfl ⟨rfl, HBW.out⟩
end Go.Proofs.YtghkeilgdmnnlaaDoor

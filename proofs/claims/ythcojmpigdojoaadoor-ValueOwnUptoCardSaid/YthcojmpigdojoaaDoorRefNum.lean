/- codicilref02.Number: the decimal digits of a place; which place a text names. Condition: the number is no less than 0 and below 2^62. -/
import Derived.Test.YthcojmpigdojoaaDoorNum
import Derived.Test.YthcojmpigdojoaaDoorGetV
set_option linter.unusedVariables false
set_option linter.unusedSimpArgs false
namespace Go.Proofs.YthcojmpigdojoaaDoor
open Go Go.RowKit Go.BigFrame
set_option maxRecDepth 100000

theorem dec_small {u : Nat} (h : u < 10) : Lib.decDigits u = [UInt8.ofNat (48 + u)] := by rw [Lib.decDigits, dif_pos h]
theorem dec_more {u : Nat} (h : ¬ u < 10) : Lib.decDigits u = Lib.decDigits (u / 10) ++ [UInt8.ofNat (48 + u % 10)] := by rw [Lib.decDigits, dif_neg h]
theorem dig_nat {d : Nat} (h : d < 10) : (UInt8.ofNat (48 + d)).toNat = 48 + d := by
  rw [UInt8.toNat_ofNat']
  exact Nat.mod_eq_of_lt (by omega)
theorem parse_dec : ∀ (m u : Nat), u < m → u < 4611686018427387904 → ∀ r, Lib.parseUint10 0 (Lib.decDigits u ++ r) = Lib.parseUint10 u r := by
  intro m
  induction m with
  | zero => intro u h; omega
  | succ m ih =>
    intro u hu hb r
    by_cases h : u < 10
    · rw [dec_small h]
      show Lib.parseUint10 0 (UInt8.ofNat (48 + u) :: r) = _
      simp only [Lib.parseUint10]
      rw [dig_nat h, if_pos (by omega), if_neg (by omega), if_neg (by omega)]
      congr 1
      omega
    · rw [dec_more h, List.append_assoc, ih (u / 10) (by omega) (by omega)]
      show Lib.parseUint10 (u / 10) (UInt8.ofNat (48 + u % 10) :: r) = _
      simp only [Lib.parseUint10]
      rw [dig_nat (Nat.mod_lt _ (by omega)), if_pos (by omega), if_neg (by omega), if_neg (by omega)]
      congr 1
      omega
theorem dec_head : ∀ (m u : Nat), u < m → ∃ c r, Lib.decDigits u = c :: r ∧ 48 ≤ c.toNat := by
  intro m
  induction m with
  | zero => intro u h; omega
  | succ m ih =>
    intro u hu
    by_cases h : u < 10
    · exact ⟨_, [], dec_small h, by rw [dig_nat h]; omega⟩
    · obtain ⟨c, r, e, hc⟩ := ih (u / 10) (by omega)
      exact ⟨c, r ++ [UInt8.ofNat (48 + u % 10)], by rw [dec_more h, e]; rfl, hc⟩
theorem itoaL_nat (i : Nat) : itoaL (i : Int) = Lib.decDigits i := by
  unfold itoaL Lib.itoa
  rw [if_neg (by omega)]
  rfl
theorem atoiN_dec {i : Nat} (h : i < 4611686018427387904) : atoiN (Lib.decDigits i) = some (i : Int) := by
  obtain ⟨c, r, e, hc⟩ := dec_head (i + 1) i (by omega)
  have hp := parse_dec (i + 1) i (by omega) h []
  rw [List.append_nil] at hp
  have e2 : Lib.parseUint10 i [] = .ok i := rfl
  rw [e2] at hp
  have h45 : ¬ c.toNat = 45 := by omega
  have h43 : ¬ (c.toNat = 43 ∨ c.toNat = 45) := by omega
  have ha : Lib.atoiAll (c :: r) = .ok (i : Int) := by
    rw [e] at hp
    show (match Lib.parseMag (if c.toNat = 43 ∨ c.toNat = 45 then r else c :: r) with
      | .syntax => Lib.NumEnd.syntax
      | .range => .range
      | .ok u => if ¬ (c.toNat = 45) ∧ 9223372036854775808 ≤ u then .range else if c.toNat = 45 ∧ 9223372036854775808 < u then .range else .ok (if c.toNat = 45 then -(u : Int) else u)) = _
    rw [if_neg h43, Lib.parseMag, if_neg (List.cons_ne_nil c r), hp]
    show (if ¬ (c.toNat = 45) ∧ 9223372036854775808 ≤ i then Lib.NumEnd.range else if c.toNat = 45 ∧ 9223372036854775808 < i then .range else .ok (if c.toNat = 45 then -(i : Int) else i)) = _
    rw [if_neg (by omega), if_neg (by omega), if_neg h45]
  unfold atoiN
  rw [e, ha]
/-- A text names a place just if it is the place's digits. -/
theorem placeN_iff {s : List UInt8} {n i : Nat} (hn : n ≤ 4611686018427387904) : placeN s n = some i ↔ i < n ∧ Lib.decDigits i = s := by
  constructor
  · intro h
    obtain ⟨h1, _, h3⟩ := placeN_lt h
    exact ⟨h1, by rw [← itoaL_nat]; exact h3⟩
  · rintro ⟨h1, rfl⟩
    unfold placeN
    rw [atoiN_dec (by omega)]
    simp only []
    rw [if_pos ⟨by omega, by omega, itoaL_nat i⟩]
    rfl
set_option maxHeartbeats 4000000 in
theorem rnum_any (n : Nat) (hn : n < 4611686018427387904) (w : World) : Calls Tryd.prog 49 #[.int .i64 (n : Int)] w fun e' w' => e' = .returned (.string (bs (Lib.decDigits n))) ∧ w = w' := by
  obtain ⟨R, hR⟩ : ∃ R, R = Lib.decDigits n := ⟨_, rfl⟩
  rw [← hR]
  have HR := Lib.hid hR
  clear hR
  go_enter Tryd.func49, Tryd.ntmps49
  go_wp2
  go_loopw [0, 3] (fun a s wr => ∃ (m : Nat) (acc : List UInt8), a = .int .i64 (m : Int) ∧ s = .string (bs acc) ∧ m < 4611686018427387904 ∧ ((acc = [] ∧ m = n) ∨ (¬ acc = [] ∧ ((m = 0 ∧ acc = R) ∨ (0 < m ∧ Lib.decDigits m ++ acc = R)))) ∧ m * 2 ^ acc.length < 4611686018427387904 ∧ w = wr) (fun a s _ => 2 * (intOf a).toNat + (match s with | .string x => 1 - x.size | _ => 0))
  case atStart => exact ⟨n, [], rfl, rfl, hn, .inl ⟨rfl, rfl⟩, by simpa using hn, rfl⟩
  case round =>
  obtain ⟨m, acc, rfl, rfl, hm, hinv, hpw, rfl⟩ := hrel
  have hlen : acc = [] ∨ 0 < m → acc.length < 62 := fun h => by
    rcases h with rfl | h
    · decide
    · have h1 : 2 ^ acc.length < 2 ^ 62 := by
        refine Nat.lt_of_le_of_lt ?_ (show m * 2 ^ acc.length < 2 ^ 62 from hpw)
        exact Nat.le_mul_of_pos_left _ h
      exact (Nat.pow_lt_pow_iff_right (by decide)).1 h1
  have hpw2 : (m / 10) * 2 ^ (acc.length + 1) < 4611686018427387904 := by
    refine Nat.lt_of_le_of_lt ?_ hpw
    rw [Nat.pow_succ, ← Nat.mul_assoc, Nat.mul_right_comm]
    exact Nat.mul_le_mul_right _ (by omega)
  have hht : (bs acc).toList = acc := tl_bs _
  have hte : (bs acc).toList.isEmpty = acc.isEmpty := by rw [hht]
  have hts : (bs acc).size = acc.length := bs_size _
  have HPW := Lib.hid hpw
  have HPW2 := Lib.hid hpw2
  clear hpw hpw2
  by_cases hgo : acc = [] ∨ 0 < m
  · have hl62 := hlen hgo
    have hds : Lib.decDigits m = (if m < 10 then [] else Lib.decDigits (m / 10)) ++ [UInt8.ofNat (48 + m % 10)] := by
      by_cases h : m < 10
      · rw [if_pos h, dec_small h, Nat.mod_eq_of_lt h]; rfl
      · rw [if_neg h, dec_more h]
    have hnext : (if m < 10 then [] else Lib.decDigits (m / 10)) ++ (UInt8.ofNat (48 + m % 10) :: acc) = R := by
      rcases hinv with ⟨rfl, rfl⟩ | ⟨hne, ⟨rfl, _⟩ | ⟨_, h⟩⟩
      · rw [HR.out, hds]
      · rcases hgo with h | h
        · exact absurd h hne
        · omega
      · rw [← h, hds]; simp
    obtain ⟨d, hd⟩ : ∃ d, d = m % 10 := ⟨_, rfl⟩
    have hd10 : d < 10 := by omega
    rw [← hd] at hnext
    have hmI : (m : Int) % 10 = (d : Int) := by omega
    have HN := Lib.hid hnext
    have hms : ¬ (9223372036854775807 < 1 + acc.length) := by omega
    have hmr : ∀ X : List UInt8, X = UInt8.ofNat (48 + d) :: acc → ∃ (m' : Nat) (acc' : List UInt8), Value.int IntKind.i64 ((m : Int) / 10) = .int .i64 (m' : Int) ∧ Value.string (bs X) = .string (bs acc') ∧ m' < 4611686018427387904 ∧ ((acc' = [] ∧ m' = n) ∨ (¬ acc' = [] ∧ ((m' = 0 ∧ acc' = R) ∨ (0 < m' ∧ Lib.decDigits m' ++ acc' = R)))) ∧ m' * 2 ^ acc'.length < 4611686018427387904 := by
      rintro X rfl
      refine ⟨m / 10, UInt8.ofNat (48 + d) :: acc, by congr 1, rfl, by omega, .inr ⟨List.cons_ne_nil _ _, ?_⟩, by simpa using HPW2.out⟩
      by_cases h : m < 10
      · left
        refine ⟨by omega, ?_⟩
        have h2 := HN.out
        rw [if_pos h] at h2
        exact h2
      · right
        refine ⟨by omega, ?_⟩
        have h2 := HN.out
        rw [if_neg h] at h2
        exact h2
    have HMR := Lib.hid hmr
    have hs : acc = [] ∨ (¬ acc = [] ∧ 0 < m) := by
      by_cases h : acc = []
      · exact .inl h
      · exact .inr ⟨h, by rcases hgo with h' | h'; exact absurd h' h; exact h'⟩
    clear hd hinv hgo hnext hds hmr hlen
    have hmeas : (m : Int) / 10 ≤ (m : Int) := by omega
    match d, hd10 with
    | 0, _ =>
      have hstr : ∀ acc : List UInt8, (⟨#[48, 49, 50, 51, 52, 53, 54, 55, 56, 57]⟩ : ByteArray).extract 0 1 ++ bs acc = bs (UInt8.ofNat (48 + 0) :: acc) := fun acc => by
        rw [show (⟨#[48, 49, 50, 51, 52, 53, 54, 55, 56, 57]⟩ : ByteArray) = bs [48, 49, 50, 51, 52, 53, 54, 55, 56, 57] from rfl, bs_extract, bs_app]
        rfl
      have HSTR := Lib.hid hstr
      clear hstr
      rcases hs with rfl | ⟨hne, hm0⟩
      · go_wp2
        refine ⟨?_, ?_⟩
        · obtain ⟨m', acc', e1, e2, e3, e4, e5⟩ := HMR.out _ rfl
          exact ⟨m', acc', e1, by rw [HSTR.out]; exact e2, e3, e4, e5, trivial⟩
        · rw [HSTR.out]
          show 2 * ((m : Int) / 10).toNat + (1 - (bs (UInt8.ofNat (48 + 0) :: [])).size) < 2 * (m : Int).toNat + (1 - (bs []).size)
          rw [bs_size, bs_size, List.length_cons, List.length_nil]
          omega
      · have hne2 : acc.isEmpty = false := by cases acc; exact absurd rfl hne; rfl
        go_wp2
        refine ⟨?_, ?_⟩
        · obtain ⟨m', acc', e1, e2, e3, e4, e5⟩ := HMR.out _ rfl
          exact ⟨m', acc', e1, by rw [HSTR.out]; exact e2, e3, e4, e5, trivial⟩
        · rw [HSTR.out]
          show 2 * ((m : Int) / 10).toNat + (1 - (bs (UInt8.ofNat (48 + 0) :: acc)).size) < 2 * (m : Int).toNat + (1 - (bs acc).size)
          rw [bs_size, bs_size, List.length_cons]
          omega
    | 1, _ =>
      have hstr : ∀ acc : List UInt8, (⟨#[48, 49, 50, 51, 52, 53, 54, 55, 56, 57]⟩ : ByteArray).extract 1 2 ++ bs acc = bs (UInt8.ofNat (48 + 1) :: acc) := fun acc => by
        rw [show (⟨#[48, 49, 50, 51, 52, 53, 54, 55, 56, 57]⟩ : ByteArray) = bs [48, 49, 50, 51, 52, 53, 54, 55, 56, 57] from rfl, bs_extract, bs_app]
        rfl
      have HSTR := Lib.hid hstr
      clear hstr
      rcases hs with rfl | ⟨hne, hm0⟩
      · go_wp2
        refine ⟨?_, ?_⟩
        · obtain ⟨m', acc', e1, e2, e3, e4, e5⟩ := HMR.out _ rfl
          exact ⟨m', acc', e1, by rw [HSTR.out]; exact e2, e3, e4, e5, trivial⟩
        · rw [HSTR.out]
          show 2 * ((m : Int) / 10).toNat + (1 - (bs (UInt8.ofNat (48 + 1) :: [])).size) < 2 * (m : Int).toNat + (1 - (bs []).size)
          rw [bs_size, bs_size, List.length_cons, List.length_nil]
          omega
      · have hne2 : acc.isEmpty = false := by cases acc; exact absurd rfl hne; rfl
        go_wp2
        refine ⟨?_, ?_⟩
        · obtain ⟨m', acc', e1, e2, e3, e4, e5⟩ := HMR.out _ rfl
          exact ⟨m', acc', e1, by rw [HSTR.out]; exact e2, e3, e4, e5, trivial⟩
        · rw [HSTR.out]
          show 2 * ((m : Int) / 10).toNat + (1 - (bs (UInt8.ofNat (48 + 1) :: acc)).size) < 2 * (m : Int).toNat + (1 - (bs acc).size)
          rw [bs_size, bs_size, List.length_cons]
          omega
    | 2, _ =>
      have hstr : ∀ acc : List UInt8, (⟨#[48, 49, 50, 51, 52, 53, 54, 55, 56, 57]⟩ : ByteArray).extract 2 3 ++ bs acc = bs (UInt8.ofNat (48 + 2) :: acc) := fun acc => by
        rw [show (⟨#[48, 49, 50, 51, 52, 53, 54, 55, 56, 57]⟩ : ByteArray) = bs [48, 49, 50, 51, 52, 53, 54, 55, 56, 57] from rfl, bs_extract, bs_app]
        rfl
      have HSTR := Lib.hid hstr
      clear hstr
      rcases hs with rfl | ⟨hne, hm0⟩
      · go_wp2
        refine ⟨?_, ?_⟩
        · obtain ⟨m', acc', e1, e2, e3, e4, e5⟩ := HMR.out _ rfl
          exact ⟨m', acc', e1, by rw [HSTR.out]; exact e2, e3, e4, e5, trivial⟩
        · rw [HSTR.out]
          show 2 * ((m : Int) / 10).toNat + (1 - (bs (UInt8.ofNat (48 + 2) :: [])).size) < 2 * (m : Int).toNat + (1 - (bs []).size)
          rw [bs_size, bs_size, List.length_cons, List.length_nil]
          omega
      · have hne2 : acc.isEmpty = false := by cases acc; exact absurd rfl hne; rfl
        go_wp2
        refine ⟨?_, ?_⟩
        · obtain ⟨m', acc', e1, e2, e3, e4, e5⟩ := HMR.out _ rfl
          exact ⟨m', acc', e1, by rw [HSTR.out]; exact e2, e3, e4, e5, trivial⟩
        · rw [HSTR.out]
          show 2 * ((m : Int) / 10).toNat + (1 - (bs (UInt8.ofNat (48 + 2) :: acc)).size) < 2 * (m : Int).toNat + (1 - (bs acc).size)
          rw [bs_size, bs_size, List.length_cons]
          omega
    | 3, _ =>
      have hstr : ∀ acc : List UInt8, (⟨#[48, 49, 50, 51, 52, 53, 54, 55, 56, 57]⟩ : ByteArray).extract 3 4 ++ bs acc = bs (UInt8.ofNat (48 + 3) :: acc) := fun acc => by
        rw [show (⟨#[48, 49, 50, 51, 52, 53, 54, 55, 56, 57]⟩ : ByteArray) = bs [48, 49, 50, 51, 52, 53, 54, 55, 56, 57] from rfl, bs_extract, bs_app]
        rfl
      have HSTR := Lib.hid hstr
      clear hstr
      rcases hs with rfl | ⟨hne, hm0⟩
      · go_wp2
        refine ⟨?_, ?_⟩
        · obtain ⟨m', acc', e1, e2, e3, e4, e5⟩ := HMR.out _ rfl
          exact ⟨m', acc', e1, by rw [HSTR.out]; exact e2, e3, e4, e5, trivial⟩
        · rw [HSTR.out]
          show 2 * ((m : Int) / 10).toNat + (1 - (bs (UInt8.ofNat (48 + 3) :: [])).size) < 2 * (m : Int).toNat + (1 - (bs []).size)
          rw [bs_size, bs_size, List.length_cons, List.length_nil]
          omega
      · have hne2 : acc.isEmpty = false := by cases acc; exact absurd rfl hne; rfl
        go_wp2
        refine ⟨?_, ?_⟩
        · obtain ⟨m', acc', e1, e2, e3, e4, e5⟩ := HMR.out _ rfl
          exact ⟨m', acc', e1, by rw [HSTR.out]; exact e2, e3, e4, e5, trivial⟩
        · rw [HSTR.out]
          show 2 * ((m : Int) / 10).toNat + (1 - (bs (UInt8.ofNat (48 + 3) :: acc)).size) < 2 * (m : Int).toNat + (1 - (bs acc).size)
          rw [bs_size, bs_size, List.length_cons]
          omega
    | 4, _ =>
      have hstr : ∀ acc : List UInt8, (⟨#[48, 49, 50, 51, 52, 53, 54, 55, 56, 57]⟩ : ByteArray).extract 4 5 ++ bs acc = bs (UInt8.ofNat (48 + 4) :: acc) := fun acc => by
        rw [show (⟨#[48, 49, 50, 51, 52, 53, 54, 55, 56, 57]⟩ : ByteArray) = bs [48, 49, 50, 51, 52, 53, 54, 55, 56, 57] from rfl, bs_extract, bs_app]
        rfl
      have HSTR := Lib.hid hstr
      clear hstr
      rcases hs with rfl | ⟨hne, hm0⟩
      · go_wp2
        refine ⟨?_, ?_⟩
        · obtain ⟨m', acc', e1, e2, e3, e4, e5⟩ := HMR.out _ rfl
          exact ⟨m', acc', e1, by rw [HSTR.out]; exact e2, e3, e4, e5, trivial⟩
        · rw [HSTR.out]
          show 2 * ((m : Int) / 10).toNat + (1 - (bs (UInt8.ofNat (48 + 4) :: [])).size) < 2 * (m : Int).toNat + (1 - (bs []).size)
          rw [bs_size, bs_size, List.length_cons, List.length_nil]
          omega
      · have hne2 : acc.isEmpty = false := by cases acc; exact absurd rfl hne; rfl
        go_wp2
        refine ⟨?_, ?_⟩
        · obtain ⟨m', acc', e1, e2, e3, e4, e5⟩ := HMR.out _ rfl
          exact ⟨m', acc', e1, by rw [HSTR.out]; exact e2, e3, e4, e5, trivial⟩
        · rw [HSTR.out]
          show 2 * ((m : Int) / 10).toNat + (1 - (bs (UInt8.ofNat (48 + 4) :: acc)).size) < 2 * (m : Int).toNat + (1 - (bs acc).size)
          rw [bs_size, bs_size, List.length_cons]
          omega
    | 5, _ =>
      have hstr : ∀ acc : List UInt8, (⟨#[48, 49, 50, 51, 52, 53, 54, 55, 56, 57]⟩ : ByteArray).extract 5 6 ++ bs acc = bs (UInt8.ofNat (48 + 5) :: acc) := fun acc => by
        rw [show (⟨#[48, 49, 50, 51, 52, 53, 54, 55, 56, 57]⟩ : ByteArray) = bs [48, 49, 50, 51, 52, 53, 54, 55, 56, 57] from rfl, bs_extract, bs_app]
        rfl
      have HSTR := Lib.hid hstr
      clear hstr
      rcases hs with rfl | ⟨hne, hm0⟩
      · go_wp2
        refine ⟨?_, ?_⟩
        · obtain ⟨m', acc', e1, e2, e3, e4, e5⟩ := HMR.out _ rfl
          exact ⟨m', acc', e1, by rw [HSTR.out]; exact e2, e3, e4, e5, trivial⟩
        · rw [HSTR.out]
          show 2 * ((m : Int) / 10).toNat + (1 - (bs (UInt8.ofNat (48 + 5) :: [])).size) < 2 * (m : Int).toNat + (1 - (bs []).size)
          rw [bs_size, bs_size, List.length_cons, List.length_nil]
          omega
      · have hne2 : acc.isEmpty = false := by cases acc; exact absurd rfl hne; rfl
        go_wp2
        refine ⟨?_, ?_⟩
        · obtain ⟨m', acc', e1, e2, e3, e4, e5⟩ := HMR.out _ rfl
          exact ⟨m', acc', e1, by rw [HSTR.out]; exact e2, e3, e4, e5, trivial⟩
        · rw [HSTR.out]
          show 2 * ((m : Int) / 10).toNat + (1 - (bs (UInt8.ofNat (48 + 5) :: acc)).size) < 2 * (m : Int).toNat + (1 - (bs acc).size)
          rw [bs_size, bs_size, List.length_cons]
          omega
    | 6, _ =>
      have hstr : ∀ acc : List UInt8, (⟨#[48, 49, 50, 51, 52, 53, 54, 55, 56, 57]⟩ : ByteArray).extract 6 7 ++ bs acc = bs (UInt8.ofNat (48 + 6) :: acc) := fun acc => by
        rw [show (⟨#[48, 49, 50, 51, 52, 53, 54, 55, 56, 57]⟩ : ByteArray) = bs [48, 49, 50, 51, 52, 53, 54, 55, 56, 57] from rfl, bs_extract, bs_app]
        rfl
      have HSTR := Lib.hid hstr
      clear hstr
      rcases hs with rfl | ⟨hne, hm0⟩
      · go_wp2
        refine ⟨?_, ?_⟩
        · obtain ⟨m', acc', e1, e2, e3, e4, e5⟩ := HMR.out _ rfl
          exact ⟨m', acc', e1, by rw [HSTR.out]; exact e2, e3, e4, e5, trivial⟩
        · rw [HSTR.out]
          show 2 * ((m : Int) / 10).toNat + (1 - (bs (UInt8.ofNat (48 + 6) :: [])).size) < 2 * (m : Int).toNat + (1 - (bs []).size)
          rw [bs_size, bs_size, List.length_cons, List.length_nil]
          omega
      · have hne2 : acc.isEmpty = false := by cases acc; exact absurd rfl hne; rfl
        go_wp2
        refine ⟨?_, ?_⟩
        · obtain ⟨m', acc', e1, e2, e3, e4, e5⟩ := HMR.out _ rfl
          exact ⟨m', acc', e1, by rw [HSTR.out]; exact e2, e3, e4, e5, trivial⟩
        · rw [HSTR.out]
          show 2 * ((m : Int) / 10).toNat + (1 - (bs (UInt8.ofNat (48 + 6) :: acc)).size) < 2 * (m : Int).toNat + (1 - (bs acc).size)
          rw [bs_size, bs_size, List.length_cons]
          omega
    | 7, _ =>
      have hstr : ∀ acc : List UInt8, (⟨#[48, 49, 50, 51, 52, 53, 54, 55, 56, 57]⟩ : ByteArray).extract 7 8 ++ bs acc = bs (UInt8.ofNat (48 + 7) :: acc) := fun acc => by
        rw [show (⟨#[48, 49, 50, 51, 52, 53, 54, 55, 56, 57]⟩ : ByteArray) = bs [48, 49, 50, 51, 52, 53, 54, 55, 56, 57] from rfl, bs_extract, bs_app]
        rfl
      have HSTR := Lib.hid hstr
      clear hstr
      rcases hs with rfl | ⟨hne, hm0⟩
      · go_wp2
        refine ⟨?_, ?_⟩
        · obtain ⟨m', acc', e1, e2, e3, e4, e5⟩ := HMR.out _ rfl
          exact ⟨m', acc', e1, by rw [HSTR.out]; exact e2, e3, e4, e5, trivial⟩
        · rw [HSTR.out]
          show 2 * ((m : Int) / 10).toNat + (1 - (bs (UInt8.ofNat (48 + 7) :: [])).size) < 2 * (m : Int).toNat + (1 - (bs []).size)
          rw [bs_size, bs_size, List.length_cons, List.length_nil]
          omega
      · have hne2 : acc.isEmpty = false := by cases acc; exact absurd rfl hne; rfl
        go_wp2
        refine ⟨?_, ?_⟩
        · obtain ⟨m', acc', e1, e2, e3, e4, e5⟩ := HMR.out _ rfl
          exact ⟨m', acc', e1, by rw [HSTR.out]; exact e2, e3, e4, e5, trivial⟩
        · rw [HSTR.out]
          show 2 * ((m : Int) / 10).toNat + (1 - (bs (UInt8.ofNat (48 + 7) :: acc)).size) < 2 * (m : Int).toNat + (1 - (bs acc).size)
          rw [bs_size, bs_size, List.length_cons]
          omega
    | 8, _ =>
      have hstr : ∀ acc : List UInt8, (⟨#[48, 49, 50, 51, 52, 53, 54, 55, 56, 57]⟩ : ByteArray).extract 8 9 ++ bs acc = bs (UInt8.ofNat (48 + 8) :: acc) := fun acc => by
        rw [show (⟨#[48, 49, 50, 51, 52, 53, 54, 55, 56, 57]⟩ : ByteArray) = bs [48, 49, 50, 51, 52, 53, 54, 55, 56, 57] from rfl, bs_extract, bs_app]
        rfl
      have HSTR := Lib.hid hstr
      clear hstr
      rcases hs with rfl | ⟨hne, hm0⟩
      · go_wp2
        refine ⟨?_, ?_⟩
        · obtain ⟨m', acc', e1, e2, e3, e4, e5⟩ := HMR.out _ rfl
          exact ⟨m', acc', e1, by rw [HSTR.out]; exact e2, e3, e4, e5, trivial⟩
        · rw [HSTR.out]
          show 2 * ((m : Int) / 10).toNat + (1 - (bs (UInt8.ofNat (48 + 8) :: [])).size) < 2 * (m : Int).toNat + (1 - (bs []).size)
          rw [bs_size, bs_size, List.length_cons, List.length_nil]
          omega
      · have hne2 : acc.isEmpty = false := by cases acc; exact absurd rfl hne; rfl
        go_wp2
        refine ⟨?_, ?_⟩
        · obtain ⟨m', acc', e1, e2, e3, e4, e5⟩ := HMR.out _ rfl
          exact ⟨m', acc', e1, by rw [HSTR.out]; exact e2, e3, e4, e5, trivial⟩
        · rw [HSTR.out]
          show 2 * ((m : Int) / 10).toNat + (1 - (bs (UInt8.ofNat (48 + 8) :: acc)).size) < 2 * (m : Int).toNat + (1 - (bs acc).size)
          rw [bs_size, bs_size, List.length_cons]
          omega
    | 9, _ =>
      have hstr : ∀ acc : List UInt8, (⟨#[48, 49, 50, 51, 52, 53, 54, 55, 56, 57]⟩ : ByteArray).extract 9 10 ++ bs acc = bs (UInt8.ofNat (48 + 9) :: acc) := fun acc => by
        rw [show (⟨#[48, 49, 50, 51, 52, 53, 54, 55, 56, 57]⟩ : ByteArray) = bs [48, 49, 50, 51, 52, 53, 54, 55, 56, 57] from rfl, bs_extract, bs_app]
        rfl
      have HSTR := Lib.hid hstr
      clear hstr
      rcases hs with rfl | ⟨hne, hm0⟩
      · go_wp2
        refine ⟨?_, ?_⟩
        · obtain ⟨m', acc', e1, e2, e3, e4, e5⟩ := HMR.out _ rfl
          exact ⟨m', acc', e1, by rw [HSTR.out]; exact e2, e3, e4, e5, trivial⟩
        · rw [HSTR.out]
          show 2 * ((m : Int) / 10).toNat + (1 - (bs (UInt8.ofNat (48 + 9) :: [])).size) < 2 * (m : Int).toNat + (1 - (bs []).size)
          rw [bs_size, bs_size, List.length_cons, List.length_nil]
          omega
      · have hne2 : acc.isEmpty = false := by cases acc; exact absurd rfl hne; rfl
        go_wp2
        refine ⟨?_, ?_⟩
        · obtain ⟨m', acc', e1, e2, e3, e4, e5⟩ := HMR.out _ rfl
          exact ⟨m', acc', e1, by rw [HSTR.out]; exact e2, e3, e4, e5, trivial⟩
        · rw [HSTR.out]
          show 2 * ((m : Int) / 10).toNat + (1 - (bs (UInt8.ofNat (48 + 9) :: acc)).size) < 2 * (m : Int).toNat + (1 - (bs acc).size)
          rw [bs_size, bs_size, List.length_cons]
          omega
  · obtain ⟨hne, hm0⟩ : ¬ acc = [] ∧ m = 0 := ⟨fun h => hgo (.inl h), by
      rcases Nat.eq_zero_or_pos m with h | h
      · exact h
      · exact absurd (.inr h) hgo⟩
    subst hm0
    have hR : acc = R := by
      rcases hinv with ⟨h, _⟩ | ⟨_, ⟨_, h⟩ | ⟨h, _⟩⟩
      · exact absurd h hne
      · exact h
      · omega
    subst hR
    have hne2 : acc.isEmpty = false := by cases acc; exact absurd rfl hne; rfl
    clear hinv hgo hlen
    go_wp2
    go_ret
    exact ⟨rfl, rfl⟩
end Go.Proofs.YthcojmpigdojoaaDoor

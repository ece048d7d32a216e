/- merkle: half, leaf, node, joined. Conditions: a number from 2 to 2^40; texts no longer than 2^40 bytes; the table of constants reads as the text lays it. -/
import Derived.Test.YtfnlehnhcekpkaaDoorShaSum
import Derived.Test.YtfnlehnhcekpkaaDoorShelf
import Derived.Test.YtfnlehnhcekpkaaDoorStr
import Derived.Test.YtfnlehnhcekpkaaDoorPush
set_option linter.unusedVariables false
set_option linter.unusedSimpArgs false
namespace Go.Proofs.YtfnlehnhcekpkaaDoor
open Go Go.RowKit Go.BigFrame
set_option maxRecDepth 100000

/-- The greatest power of 2 below a number above 1. -/
def halfN (n : Nat) : Nat := 2 ^ (Lib.bitLen (n - 1) - 1)
theorem bitLen_pow : ∀ (m x : Nat), x ≤ m → x ≠ 0 → x < 2 ^ 64 → 2 ^ (Lib.bitLen x - 1) ≤ x ∧ x < 2 ^ Lib.bitLen x ∧ 1 ≤ Lib.bitLen x := by
  intro m
  induction m with
  | zero => intro x h h0; omega
  | succ m ih =>
    intro x h h0 h64
    rw [Lib.bitLen_half x h0 h64]
    by_cases h1 : x / 2 = 0
    · have : x = 1 := by omega
      subst this
      decide
    · obtain ⟨a, b, c⟩ := ih (x / 2) (by omega) h1 (by omega)
      obtain ⟨L, hL⟩ : ∃ L, Lib.bitLen (x / 2) = L + 1 := ⟨Lib.bitLen (x / 2) - 1, by omega⟩
      rw [hL] at a b ⊢
      rw [Nat.add_sub_cancel] at a
      rw [show 1 + (L + 1) - 1 = L + 1 by omega, show 1 + (L + 1) = L + 1 + 1 by omega, Nat.pow_succ]
      rw [Nat.pow_succ] at b
      refine ⟨by omega, ?_, by omega⟩
      rw [Nat.pow_succ, Nat.pow_succ]
      omega
theorem halfN_fits {n : Nat} (h2 : 2 ≤ n) (h : n ≤ 1099511627776) : 1 ≤ halfN n ∧ halfN n < n ∧ n ≤ 2 * halfN n := by
  obtain ⟨a, b, c⟩ := bitLen_pow (n - 1) (n - 1) (Nat.le_refl _) (by omega) (by omega)
  unfold halfN
  obtain ⟨L, hL⟩ : ∃ L, Lib.bitLen (n - 1) = L + 1 := ⟨Lib.bitLen (n - 1) - 1, by omega⟩
  rw [hL] at a b ⊢
  rw [Nat.add_sub_cancel] at a ⊢
  rw [Nat.pow_succ] at b
  have := Nat.one_le_two_pow (n := L)
  omega
theorem bitLen_le {x k : Nat} (h : x < 2 ^ k) (hk : k ≤ 64) (h0 : x ≠ 0) : Lib.bitLen x ≤ k := by
  obtain ⟨a, b, c⟩ := bitLen_pow x x (Nat.le_refl _) h0 (Nat.lt_of_lt_of_le h (Nat.pow_le_pow_right (by omega) hk))
  rcases Nat.lt_or_ge k (Lib.bitLen x) with h1 | h1
  · have := Nat.pow_le_pow_right (show 0 < 2 by omega) (show k ≤ Lib.bitLen x - 1 by omega)
    omega
  · exact h1
set_option maxHeartbeats 2000000 in
theorem half_any (n : Nat) (h2 : 2 ≤ n) (hn : n ≤ 1099511627776) (w : World) : Calls Tryd.prog 41 #[.int .i64 (n : Int)] w fun e' w' => e' = .returned (.int .i64 (halfN n : Int)) ∧ w = w' := by
  obtain ⟨L, hL⟩ : ∃ L, L = Lib.bitLen (n - 1) := ⟨_, rfl⟩
  have hL0 := bitLen_pow (n - 1) (n - 1) (Nat.le_refl _) (by omega) (by omega)
  have hL1 : L ≤ 41 := by rw [hL]; exact bitLen_le (by omega) (by omega) (by omega)
  rw [← hL] at hL0
  have hL2 : 1 ≤ L := hL0.2.2
  have HL : Hid (L = Lib.bitLen ((n : Int) - 1).toNat) := Lib.hid (by rw [hL]; congr 1; omega)
  have hpw : 2 ^ (L - 1) ≤ 2 ^ 40 := Nat.pow_le_pow_right (by omega) (by omega)
  have HR : Hid ((halfN n : Int) = wrap64 (2 ^ (L - 1))) := Lib.hid (by
    have e : ((2 : Int) ^ (L - 1)) = ((2 ^ (L - 1) : Nat) : Int) := by simp
    rw [halfN, ← hL, e]
    have h40 : (2 : Nat) ^ 40 = 1099511627776 := by decide
    generalize 2 ^ (L - 1) = P at hpw
    rw [IntWalk.wrap64_in _ ⟨by omega, by omega⟩])
  clear hpw
  generalize (halfN n : Int) = R at HR ⊢
  clear hL0 hL
  go_enter Tryd.func41, Tryd.ntmps41
  go_wp2_with fail
  go_at_call 64
  refine (Tryd.bits_Len _ _ (by omega) (by omega)).mono ?_
  rintro e' w1 ⟨he, rfl⟩
  rw [← HL.out] at he
  subst he
  go_wp2
  go_ret
  exact ⟨by rw [HR.out]; rfl, rfl⟩
/-! Texts one behind the other, digested. -/
def leafL (s : List UInt8) : List UInt8 := shaL (0 :: s)
def nodeL (a b : List UInt8) : List UInt8 := shaL (1 :: (a ++ b))
theorem more_length8 (hs : List Int) (h : hs.length = 8) (l : List UInt8) : (more hs l).1.length = 8 := more_length _ h _
theorem shaL_length (l : List UInt8) : (shaL l).length = 32 := by
  unfold shaL endOf
  have h1 : (more (more h0 l).1 ((more h0 l).2 ++ pad l.length)).1.length = 8 := more_length8 _ (more_length8 _ rfl _) _
  generalize (more (more h0 l).1 ((more h0 l).2 ++ pad l.length)).1 = v at h1 ⊢
  obtain ⟨a, b, c, d, e, f, g, h, rfl⟩ := of_eight h1
  exact outB_length _ _ _ _ _ _ _ _
theorem leafL_length (s : List UInt8) : (leafL s).length = 32 := shaL_length _
theorem nodeL_length (a b : List UInt8) : (nodeL a b).length = 32 := shaL_length _
theorem bs_cons (c : UInt8) (l : List UInt8) : bs (c :: l) = bs [c] ++ bs l := by rw [bs_app]; rfl
theorem bs_cons2 (c : UInt8) (l m : List UInt8) : bs (c :: (l ++ m)) = bs [c] ++ bs l ++ bs m := by rw [bs_app, bs_app]; rfl
theorem sum_l (l : List UInt8) (s : ByteArray) (hs : s = bs l) (w : World) (hK : Ks w) (hl : l.length ≤ 281474976710656) :
    Calls Tryd.prog 23 #[.string s] w fun e' w' => e' = .returned (.string (bs (shaL l))) ∧ Below w.heap.size w w' := by
  subst hs
  exact sum_any (bs l) w hK (by rw [bs_size]; exact hl)
theorem leaf_any (s : List UInt8) (w : World) (hK : Ks w) (hs : s.length ≤ 1099511627776) :
    Calls Tryd.prog 30 #[.string (bs s)] w fun e' w' => e' = .returned (.string (bs (leafL s))) ∧ Below w.heap.size w w' := by
  have hsz := bs_size s
  have HK := Lib.hid hK
  have HS : Hid (∀ x : ByteArray, x = ⟨#[0]⟩ ++ bs s → x = bs (0 :: s)) := Lib.hid (fun x h => by rw [h, bs_cons]; rfl)
  clear hK
  go_enter Tryd.func30, Tryd.ntmps30
  go_wp2_with fail
  go_at_call 23
  refine (sum_l (0 :: s) _ (HS.out _ rfl) _ HK.out (by rw [List.length_cons]; omega)).mono ?_
  rintro e' w1 ⟨rfl, hb⟩
  have HB := Lib.hid hb
  clear hb
  go_wp2
  go_ret
  exact ⟨rfl, HB.out⟩
theorem node_any (a b : List UInt8) (w : World) (hK : Ks w) (ha : a.length ≤ 1099511627776) (hb : b.length ≤ 1099511627776) :
    Calls Tryd.prog 33 #[.string (bs a), .string (bs b)] w fun e' w' => e' = .returned (.string (bs (nodeL a b))) ∧ Below w.heap.size w w' := by
  have hsa := bs_size a
  have hsb := bs_size b
  have HK := Lib.hid hK
  have HS : Hid (∀ x : ByteArray, x = ⟨#[1]⟩ ++ bs a ++ bs b → x = bs (1 :: (a ++ b))) := Lib.hid (fun x h => by rw [h, bs_cons2]; rfl)
  clear hK
  go_enter Tryd.func33, Tryd.ntmps33
  go_wp2_with fail
  go_at_call 23
  refine (sum_l (1 :: (a ++ b)) _ (HS.out _ rfl) _ HK.out (by rw [List.length_cons, List.length_append]; omega)).mono ?_
  rintro e' w1 ⟨rfl, hb⟩
  have HB := Lib.hid hb
  clear hb
  go_wp2
  go_ret
  exact ⟨rfl, HB.out⟩
/-- What is digested of a digest and the one beside it. -/
def joinL (x y : List UInt8) (left : Bool) : List UInt8 := if left then 1 :: (x ++ y) else 1 :: (y ++ x)
theorem joined_any (x y : List UInt8) (left : Bool) (w : World) (hx : x.length ≤ 1099511627776) (hy : y.length ≤ 1099511627776) :
    Calls Tryd.prog 46 #[.string (bs x), .string (bs y), .bool left] w fun e' w' => e' = .returned (.string (bs (joinL x y left))) ∧ w = w' := by
  have hsx := bs_size x
  have hsy := bs_size y
  obtain ⟨R, hR⟩ : ∃ R, R = joinL x y left := ⟨_, rfl⟩
  rw [← hR]
  rw [joinL] at hR
  cases left
  · have HR : Hid (R = 1 :: (y ++ x)) := Lib.hid hR
    clear hR
    go_enter Tryd.func46, Tryd.ntmps46
    go_wp2
    go_ret
    exact ⟨by rw [HR.out, bs_cons2]; rfl, rfl⟩
  · have HR : Hid (R = 1 :: (x ++ y)) := Lib.hid hR
    clear hR
    go_enter Tryd.func46, Tryd.ntmps46
    go_wp2
    go_ret
    exact ⟨by rw [HR.out, bs_cons2]; rfl, rfl⟩
/-! Rows of texts in memory. -/
def HasS (S : Nat → Prop) (w : World) (p : Option Addr) (l : List (List UInt8)) : Prop := ∀ i (h : i < l.length), ∃ g o, p = some ⟨g, o, none⟩ ∧ S g ∧ g < w.heap.size ∧ w.cell? ⟨g, o + i, none⟩ = some (.string (bs l[i]))
theorem HasS.ext_to {S S' : Nat → Prop} {w w' : World} {p : Option Addr} {l : List (List UInt8)} (h : HasS S w p l) (hS : ∀ b, S b → S' b) (hw : ∀ b, S b → b < w.heap.size → w'.heap[b]? = w.heap[b]?) : HasS S' w' p l := by
  intro i hi
  obtain ⟨g, o, h1, h2, h3, h4⟩ := h i hi
  have hb := hw g h2 h3
  refine ⟨g, o, h1, hS g h2, ?_, ?_⟩
  · rcases Nat.lt_or_ge g w'.heap.size with h' | h'
    · exact h'
    · rw [Array.getElem?_eq_none h', Array.getElem?_eq_getElem h3] at hb
      cases hb
  · rw [← h4]
    unfold World.cell?
    simp only [hb]
theorem HasS.ext {S : Nat → Prop} {w w' : World} {p : Option Addr} {l : List (List UInt8)} (h : HasS S w p l) (hb : Below w.heap.size w w') : HasS S w' p l := h.ext_to (fun _ h => h) (fun b _ hlt => hb.block b hlt)
/-- Whether all are digests by their length. -/
def dig32 (l : List (List UInt8)) : Bool := l.all fun s => s.length == 32
theorem dig32_drop {l : List (List UInt8)} {i : Nat} (h : i < l.length) : dig32 (l.drop i) = ((l[i].length == 32) && dig32 (l.drop (i + 1))) := by
  rw [List.drop_eq_getElem_cons h]; rfl
theorem is32_any (s : List UInt8) (w : World) (hs : s.length ≤ 1099511627776) :
    Calls Tryd.prog 66 #[.string (bs s)] w fun e' w' => e' = .returned (.bool (!(s.length == 32))) ∧ w = w' := by
  have hsz := bs_size s
  obtain ⟨E, hE⟩ : ∃ E, E = (s.length == 32) := ⟨_, rfl⟩
  rw [← hE]
  have he : ((s.length : Int) != 32) = !E := by
    rw [hE, bne]
    congr 1
    rw [Bool.eq_iff_iff, beq_iff_eq, beq_iff_eq]; omega
  clear hE
  all_goals
    go_enter Tryd.func66, Tryd.ntmps66
    go_wp2
    go_ret
    exact ⟨rfl, rfl⟩
theorem index_any (l : List (List UInt8)) (S : Nat → Prop) (p : Option Addr) (c : Nat) (w : World) (hl : HasS S w p l) (hn : l.length ≤ 1099511627776) (hs : ∀ s ∈ l, s.length ≤ 1099511627776) :
    Calls Tryd.prog 78 #[.slice p l.length c, .func (.func 66) #[] #[]] w fun e' w' => (∃ i : Int, e' = .returned (.int .i64 i) ∧ decide (0 ≤ i) = !dig32 l) ∧ w = w' := by
  obtain ⟨R, hR⟩ : ∃ R, R = dig32 l := ⟨_, rfl⟩
  rw [← hR]
  obtain ⟨n, hnl⟩ : ∃ n, n = l.length := ⟨_, rfl⟩
  rw [← hnl] at hn ⊢
  have HN := Lib.hid hnl
  have HL := Lib.hid hl
  have HS := Lib.hid hs
  have HR := Lib.hid hR
  clear hR hnl hl hs
  go_enter Tryd.func78, Tryd.ntmps78
  go_wp2
  go_loop [8] (fun i => ∃ j : Nat, i = .int .i64 j ∧ j ≤ n ∧ dig32 (l.drop j) = R) (fun i => n - (intOf i).toNat)
  case atStart => exact ⟨0, rfl, by omega, HR.out.symm⟩
  case round =>
  obtain ⟨j, rfl, hj, hrel⟩ := hrel
  have HREL := Lib.hid hrel
  clear hrel
  by_cases hlt : j < n
  · have hj1 : j < l.length := by rw [← HN.out]; exact hlt
    obtain ⟨g, o, hp, _, hg, hc⟩ := HL.out j hj1
    have hdr := dig32_drop hj1
    have hsl := HS.out _ (List.getElem_mem hj1)
    generalize l[j] = s at hc hdr hsl
    subst hp
    have HDR := Lib.hid hdr
    clear hdr
    obtain ⟨E, hE⟩ : ∃ E, E = (s.length == 32) := ⟨_, rfl⟩
    have HE := Lib.hid hE
    clear hE
    go_wp2_with fail
    go_at_call 66
    refine (is32_any s w hsl).mono ?_
    rintro e' w1 ⟨he, rfl⟩
    rw [← HE.out] at he
    subst he
    cases E
    · have hr : R = false := by rw [← HREL.out, HDR.out, ← HE.out]; rfl
      have HS2 := Lib.hid hr
      clear hr
      simp only [Bool.not_false]
      go_wp2
      go_ret
      exact ⟨⟨(j : Int), rfl, by rw [HS2.out]; simp⟩, rfl⟩
    · have hrel2 : dig32 (l.drop (j + 1)) = R := by rw [← HREL.out, HDR.out, ← HE.out]; rfl
      have HREL2 := Lib.hid hrel2
      clear hrel2
      simp only [Bool.not_true]
      go_wp2
      go_round
      case rel => exact ⟨j + 1, by go_num, by omega, HREL2.out⟩
      case measure => simp [intOf]; omega
  · have hr : R = true := by rw [← HREL.out, List.drop_eq_nil_of_le (by rw [← HN.out]; omega)]; rfl
    have HS2 := Lib.hid hr
    clear hr
    go_wp2
    go_ret
    exact ⟨⟨-1, rfl, by rw [HS2.out]; rfl⟩, rfl⟩
theorem digests_any (l : List (List UInt8)) (S : Nat → Prop) (p : Option Addr) (c : Nat) (w : World) (hl : HasS S w p l) (hn : l.length ≤ 1099511627776) (hs : ∀ s ∈ l, s.length ≤ 1099511627776) :
    Calls Tryd.prog 44 #[.slice p l.length c] w fun e' w' => e' = .returned (.bool (dig32 l)) ∧ w = w' := by
  have HC : Hid (Calls Tryd.prog 65 #[.slice p l.length c, .func (.func 66) #[] #[]] w fun e' w' => e' = .returned (.bool (!dig32 l)) ∧ w = w') := Lib.hid (by
    have HI := Lib.hid (index_any l S p c w hl hn hs)
    generalize dig32 l = R at HI ⊢
    generalize l.length = n at HI ⊢
    clear hl hn hs
    go_enter Tryd.func65, Tryd.ntmps65
    go_wp2_with fail
    go_at_call 78
    refine HI.out.mono ?_
    rintro e' w1 ⟨⟨i, rfl, hi⟩, rfl⟩
    go_wp2
    go_ret
    exact ⟨by rw [← hi]; rfl, rfl⟩)
  generalize dig32 l = R at HC ⊢
  generalize l.length = n at HC ⊢
  clear hl hn hs
  go_enter Tryd.func44, Tryd.ntmps44
  go_wp2_with fail
  go_at_call 65
  refine HC.out.mono ?_
  rintro e' w1 ⟨rfl, rfl⟩
  go_wp2
  go_ret
  exact ⟨by cases R <;> rfl, rfl⟩
end Go.Proofs.YtfnlehnhcekpkaaDoor

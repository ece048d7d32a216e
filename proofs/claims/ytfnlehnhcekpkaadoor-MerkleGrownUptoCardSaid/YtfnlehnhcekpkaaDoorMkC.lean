/- merkle.turns, Shows. Conditions: paths' texts no longer than 2^40 bytes; the table of constants reads as the text lays it. -/
import Derived.Test.YtfnlehnhcekpkaaDoorMkB
set_option linter.unusedVariables false
set_option linter.unusedSimpArgs false
namespace Go.Proofs.YtfnlehnhcekpkaaDoor
open Go Go.RowKit Go.BigFrame
set_option maxRecDepth 100000

/-- The steps from the root down to a place: whether it lies left. -/
def downF : Nat → Nat → Nat → List Bool
  | 0, _, _ => []
  | f + 1, i, n => if n ≤ 1 then [] else if i < halfN n then true :: downF f i (halfN n) else false :: downF f (i - halfN n) (n - halfN n)
def downL (i n : Nat) : List Bool := downF n i n
theorem downF_fuel : ∀ (f g i n : Nat), n ≤ f → n ≤ g → n ≤ 1099511627776 → downF f i n = downF g i n := by
  intro f
  induction f with
  | zero => intro g i n hf hg _; cases g with
    | zero => rfl
    | succ g => rw [downF, downF, if_pos (by omega)]
  | succ f ih =>
    intro g i n hf hg hn
    cases g with
    | zero => rw [downF, downF, if_pos (by omega)]
    | succ g =>
      rw [downF, downF]
      by_cases h1 : n ≤ 1
      · rw [if_pos h1, if_pos h1]
      · rw [if_neg h1, if_neg h1]
        obtain ⟨a, b, c⟩ := halfN_fits (n := n) (by omega) hn
        rw [ih g i (halfN n) (by omega) (by omega) (by omega), ih g (i - halfN n) (n - halfN n) (by omega) (by omega) (by omega)]
theorem downL_one {i n : Nat} (h : n ≤ 1) : downL i n = [] := by
  unfold downL
  cases n with
  | zero => rfl
  | succ n => rw [downF, if_pos h]
theorem downL_left {i n : Nat} (h2 : 2 ≤ n) (hn : n ≤ 1099511627776) (h : i < halfN n) : downL i n = true :: downL i (halfN n) := by
  obtain ⟨a, b, c⟩ := halfN_fits h2 hn
  unfold downL
  obtain ⟨m, rfl⟩ : ∃ m, n = m + 1 := ⟨n - 1, by omega⟩
  rw [downF, if_neg (by omega), if_pos h, downF_fuel m (halfN (m + 1)) _ _ (by omega) (by omega) (by omega)]
theorem downL_right {i n : Nat} (h2 : 2 ≤ n) (hn : n ≤ 1099511627776) (h : ¬ i < halfN n) : downL i n = false :: downL (i - halfN n) (n - halfN n) := by
  obtain ⟨a, b, c⟩ := halfN_fits h2 hn
  unfold downL
  obtain ⟨m, rfl⟩ : ∃ m, n = m + 1 := ⟨n - 1, by omega⟩
  rw [downF, if_neg (by omega), if_neg h, downF_fuel m (m + 1 - halfN (m + 1)) _ _ (by omega) (by omega) (by omega)]
theorem downL_length : ∀ (m i n : Nat), n ≤ m → n ≤ 1099511627776 → (downL i n).length ≤ n := by
  intro m
  induction m with
  | zero => intro i n h _; rw [downL_one (by omega)]; simp
  | succ m ih =>
    intro i n h hn
    by_cases h1 : n ≤ 1
    · rw [downL_one h1]; simp
    · obtain ⟨a, b, c⟩ := halfN_fits (n := n) (by omega) hn
      by_cases hl : i < halfN n
      · rw [downL_left (by omega) hn hl, List.length_cons]
        have := ih i (halfN n) (by omega) (by omega)
        omega
      · rw [downL_right (by omega) hn hl, List.length_cons]
        have := ih (i - halfN n) (n - halfN n) (by omega) (by omega)
        omega
set_option maxHeartbeats 4000000 in
theorem turns_any (i n : Nat) (hn : n ≤ 1099511627776) (hi : i < n) (w : World) :
    Calls Tryd.prog 45 #[.int .i64 (i : Int), .int .i64 (n : Int)] w fun e' w' => ∃ v, e' = .returned v ∧ w'.ownsRow w.heap.size 4 1 v (downL i n).length (bools (downL i n).reverse) ∧ Below w.heap.size w w' := by
  obtain ⟨D, hD⟩ : ∃ D, D = downL i n := ⟨_, rfl⟩
  rw [← hD]
  have hDl : D.length ≤ 1099511627776 := by rw [hD]; exact Nat.le_trans (downL_length n i n (Nat.le_refl _) hn) hn
  have HD := Lib.hid hD
  clear hD
  go_enter Tryd.func45, Tryd.ntmps45
  go_wp2
  go_loopw [0, 1, 5] (fun a b v wr => ∃ (i' n' : Nat) (pre : List Bool), a = .int .i64 i' ∧ b = .int .i64 n' ∧ i' < n' ∧ n' ≤ 1099511627776 ∧ pre ++ downL i' n' = D ∧ wr.ownsRow w.heap.size 4 1 v pre.length (bools pre) ∧ Below w.heap.size w wr) (fun _ b _ _ => (intOf b).toNat)
  case atStart => exact ⟨i, n, [], rfl, rfl, hi, hn, HD.out.symm, ⟨by simp [bools], Or.inl ⟨rfl, rfl⟩⟩, Below.refl _ _⟩
  case round =>
  clear HD hi hn
  obtain ⟨i', n', pre, rfl, rfl, hi, hn, hrel, hown, hbw⟩ := hrel
  have HREL := Lib.hid hrel
  have HO := Lib.hid hown
  have HBW := Lib.hid hbw
  have hsz := hbw.size
  have hpl : pre.length ≤ 1099511627776 := by
    have := congrArg List.length hrel
    rw [List.length_append] at this
    omega
  clear hrel hown hbw
  by_cases h1 : n' ≤ 1
  · have hp : pre = D := by rw [← HREL.out, downL_one h1, List.append_nil]
    subst hp
    have hnI : (n' : Int) ≤ 1 := by omega
    clear HREL h1
    go_wp2_with fail
    go_at_call 67
    refine (revb_any w.heap.size pre _ wr HO.out hpl).mono ?_
    rintro e' w1 ⟨rfl, hown, hb, _⟩
    have HO1 := Lib.hid hown
    have HB1 := Lib.hid (HBW.out.trans hb)
    clear hown hb
    go_wp2
    go_ret
    exact ⟨_, rfl, HO1.out, HB1.out⟩
  · have h2 : 2 ≤ n' := by omega
    have hnI : (1 : Int) < (n' : Int) := by omega
    obtain ⟨ha, hb, hc⟩ := halfN_fits h2 hn
    obtain ⟨k, hk⟩ : ∃ k, k = halfN n' := ⟨_, rfl⟩
    have HK := Lib.hid hk
    rw [← hk] at ha hb hc
    clear hk
    go_wp2_with fail
    go_at_call 41
    refine (half_any n' h2 hn _).mono ?_
    rintro e' w1 ⟨he, rfl⟩
    rw [← HK.out] at he
    subst he
    obtain ⟨E, hE⟩ : ∃ E, E = decide (i' < k) := ⟨_, rfl⟩
    have HE := Lib.hid hE
    have hnew : (wr.alloc (.cells #[.bool E] 4)).ownsRow w.heap.size 4 1 _ pre.length (bools pre) := own_alloc HO.out _
    have HNEW := Lib.hid hnew
    clear hnew hE
    by_cases hl : i' < k
    · have hlI : (i' : Int) < (k : Int) := by omega
      obtain rfl : E = true := by rw [HE.out]; exact decide_eq_true hl
      have hdec : decide (i' < k) = true := decide_eq_true hl
      have hrel2 : (pre ++ [true]) ++ downL i' k = D := by rw [← HREL.out, downL_left h2 hn (by rw [← HK.out]; exact hl), ← HK.out, List.append_assoc]; rfl
      have HREL2 := Lib.hid hrel2
      clear hrel2 hl
      go_wp2_with (at_builtin; refine push_at w.heap.size rfl _ _ 82 4 (.bool false) 1 rfl Tryd.underlying82 (by kernel_rfl) rfl (by decide) _ pre.length _ HNEW.out wr.heap.size 1 [.bool true] (IsBlk.new _ _ _) rfl rfl rfl (by simp [Value.oneCell']) (by simp; omega) (by omega) ?_)
      intro v1 w2 hown hg
      have HO2 : Hid (w2.ownsRow w.heap.size 4 1 v1 (pre ++ [true]).length (bools (pre ++ [true]))) := Lib.hid (by simpa [bools] using hown)
      have HB2 := Lib.hid (below_grown (HBW.out.alloc hsz _) hg (by simp; omega) (fun j hj => (HNEW.out.lt j hj).1))
      clear hown hg
      go_wp2
      go_roundw
      case rel => exact ⟨i', k, pre ++ [true], rfl, rfl, by omega, by omega, HREL2.out, HO2.out, HB2.out⟩
      case measure => simp [intOf]; omega
    · have hlI : (k : Int) ≤ (i' : Int) := by omega
      obtain rfl : E = false := by rw [HE.out]; exact decide_eq_false hl
      have hdec : decide (i' < k) = false := decide_eq_false hl
      have hrel2 : (pre ++ [false]) ++ downL (i' - k) (n' - k) = D := by rw [← HREL.out, downL_right h2 hn (by rw [← HK.out]; exact hl), ← HK.out, List.append_assoc]; rfl
      have HREL2 := Lib.hid hrel2
      clear hrel2 hl
      go_wp2_with (at_builtin; refine push_at w.heap.size rfl _ _ 82 4 (.bool false) 1 rfl Tryd.underlying82 (by kernel_rfl) rfl (by decide) _ pre.length _ HNEW.out wr.heap.size 1 [.bool false] (IsBlk.new _ _ _) rfl rfl rfl (by simp [Value.oneCell']) (by simp; omega) (by omega) ?_)
      intro v1 w2 hown hg
      have HO2 : Hid (w2.ownsRow w.heap.size 4 1 v1 (pre ++ [false]).length (bools (pre ++ [false]))) := Lib.hid (by simpa [bools] using hown)
      have HB2 := Lib.hid (below_grown (HBW.out.alloc hsz _) hg (by simp; omega) (fun j hj => (HNEW.out.lt j hj).1))
      clear hown hg
      go_wp2
      go_roundw
      case rel => exact ⟨i' - k, n' - k, pre ++ [false], by rw [Int.ofNat_sub (by omega)], by rw [Int.ofNat_sub (by omega)], by omega, by omega, HREL2.out, HO2.out, HB2.out⟩
      case measure => simp [intOf]; omega
/-- What a leaf and a path make. -/
def upL : List UInt8 → List (List UInt8) → List Bool → List UInt8
  | x, p :: ps, b :: bs => upL (shaL (joinL x p b)) ps bs
  | x, _, _ => x
theorem upL_step {x : List UInt8} {p : List (List UInt8)} {b : List Bool} {j : Nat} (h : j < p.length) (h' : j < b.length) : upL x (p.drop j) (b.drop j) = upL (shaL (joinL x p[j] b[j])) (p.drop (j + 1)) (b.drop (j + 1)) := by
  rw [List.drop_eq_getElem_cons h, List.drop_eq_getElem_cons h', upL]
/-- Whether a path shows something. -/
def showsB (root s : List UInt8) (i n : Int) (p : List (List UInt8)) : Bool :=
  if i < 0 ∨ n ≤ i ∨ 1024 < n ∨ dig32 p = false then false else if (downL i.toNat n.toNat).length ≠ p.length then false else upL (leafL s) p (downL i.toNat n.toNat).reverse == root
set_option maxHeartbeats 4000000 in
theorem shows_any (root s : List UInt8) (i n : Int) (p : List (List UInt8)) (S : Nat → Prop) (pp : Option Addr) (pc : Nat) (w : World) (hK : Ks w) (hroot : root.length ≤ 1099511627776) (hs : s.length ≤ 1099511627776) (hp : HasS S w pp p) (hpn : p.length ≤ 1099511627776) (hps : ∀ x ∈ p, x.length ≤ 1099511627776) :
    Calls Tryd.prog 21 #[.string (bs root), .string (bs s), .int .i64 i, .int .i64 n, .slice pp p.length pc] w fun e' w' => e' = .returned (.bool (showsB root s i n p)) ∧ Below w.heap.size w w' := by
  have hsr := bs_size root
  have hss := bs_size s
  obtain ⟨R, hR⟩ : ∃ R, R = showsB root s i n p := ⟨_, rfl⟩
  rw [← hR]
  rw [showsB] at hR
  have HD : Hid (Calls Tryd.prog 44 #[.slice pp p.length pc] w fun e' w' => e' = .returned (.bool (dig32 p)) ∧ w = w') := Lib.hid (digests_any p S pp pc w hp hpn hps)
  obtain ⟨G, hG⟩ : ∃ G, G = dig32 p := ⟨_, rfl⟩
  rw [← hG] at hR HD
  have HP := Lib.hid hp
  have HPS := Lib.hid hps
  have HK := Lib.hid hK
  have HG := Lib.hid hG
  obtain ⟨np, hnp⟩ : ∃ np, np = p.length := ⟨_, rfl⟩
  rw [← hnp] at hR HD hpn ⊢
  have HNP := Lib.hid hnp
  have HR := Lib.hid hR
  clear hp hps hK hR hG hnp
  by_cases h1 : i < 0
  · have hd1 : decide (i < 0) = true := decide_eq_true h1
    have HR2 : Hid (R = false) := Lib.hid (by rw [HR.out, if_pos (Or.inl h1)])
    clear HR
    go_enter Tryd.func21, Tryd.ntmps21
    go_wp2
    go_ret
    exact ⟨by rw [HR2.out]; rfl, Below.refl _ _⟩
  have hd1 : decide (i < 0) = false := decide_eq_false h1
  by_cases h2 : n ≤ i
  · have hd2 : decide (n ≤ i) = true := decide_eq_true h2
    have HR2 : Hid (R = false) := Lib.hid (by rw [HR.out, if_pos (Or.inr (Or.inl h2))])
    clear HR
    go_enter Tryd.func21, Tryd.ntmps21
    go_wp2
    go_ret
    exact ⟨by rw [HR2.out]; rfl, Below.refl _ _⟩
  have hd2 : decide (n ≤ i) = false := decide_eq_false h2
  by_cases h3 : 1024 < n
  · have hd3 : decide (1024 < n) = true := decide_eq_true h3
    have HR2 : Hid (R = false) := Lib.hid (by rw [HR.out, if_pos (Or.inr (Or.inr (Or.inl h3)))])
    clear HR
    go_enter Tryd.func21, Tryd.ntmps21
    go_wp2
    go_ret
    exact ⟨by rw [HR2.out]; rfl, Below.refl _ _⟩
  have hd3 : decide (1024 < n) = false := decide_eq_false h3
  cases G
  · have HR2 : Hid (R = false) := Lib.hid (by rw [HR.out, if_pos (Or.inr (Or.inr (Or.inr rfl)))])
    clear HR
    go_enter Tryd.func21, Tryd.ntmps21
    go_wp2_with fail
    go_at_call 44
    refine HD.out.mono ?_
    rintro e' w1 ⟨rfl, rfl⟩
    go_wp2
    go_ret
    exact ⟨by rw [HR2.out]; rfl, Below.refl _ _⟩
  have HR2 : Hid (R = if (downL i.toNat n.toNat).length ≠ np then false else upL (leafL s) p (downL i.toNat n.toNat).reverse == root) := Lib.hid (by rw [HR.out, if_neg (by simp; omega)])
  clear HR
  obtain ⟨D, hD⟩ : ∃ D, D = (downL i.toNat n.toNat).reverse := ⟨_, rfl⟩
  have HTU : Hid (∀ w', Calls Tryd.prog 45 #[.int .i64 i, .int .i64 n] w' fun e' w'' => ∃ v, e' = .returned v ∧ w''.ownsRow w'.heap.size 4 1 v D.length (bools D) ∧ Below w'.heap.size w' w'') := Lib.hid (fun w' => by
    have h := turns_any i.toNat n.toNat (by omega) (by omega) w'
    rw [hD, List.length_reverse]
    rw [show ((i.toNat : Nat) : Int) = i by omega, show ((n.toNat : Nat) : Int) = n by omega] at h
    exact h)
  rw [← List.length_reverse, ← hD] at HR2
  clear hD
  go_enter Tryd.func21, Tryd.ntmps21
  go_wp2_with fail
  go_at_call 44
  refine HD.out.mono ?_
  rintro e' w1 ⟨rfl, rfl⟩
  go_wp2_with fail
  go_at_call 45
  refine (HTU.out w).mono ?_
  rintro e' w1 ⟨v, rfl, hown, hb⟩
  have HB1 := Lib.hid hb
  by_cases hlen : D.length = np
  case neg =>
    have HR3 : Hid (R = false) := Lib.hid (by rw [HR2.out, if_pos hlen])
    clear HR2
    obtain ⟨pv, cv, rfl⟩ : ∃ pv cv, v = .slice pv D.length cv := by
      rcases hown.2 with ⟨rfl, h0⟩ | ⟨g, cap, cur, rfl, _⟩
      · exact ⟨none, 0, by rw [h0]⟩
      · exact ⟨_, _, rfl⟩
    have hDl : D.length ≤ maxLen := by
      rcases hown.2 with ⟨_, h0⟩ | ⟨g, cap, cur, _, _, _, hnc, hcm, _⟩
      · rw [h0]; exact Nat.zero_le _
      · omega
    unfold maxLen at hDl
    have hne : ((D.length : Int) != (np : Int)) = true := by simp; omega
    clear hown hb hlen
    go_wp2
    go_ret
    exact ⟨by rw [HR3.out]; rfl, HB1.out⟩
  have HR3 : Hid (R = (upL (leafL s) p D == root)) := Lib.hid (by rw [HR2.out, if_neg (by simpa using hlen)])
  clear HR2
  obtain ⟨pv, cv, rfl, hcells⟩ : ∃ pv cv, v = .slice pv np cv ∧ ∀ j (h : j < D.length), ∃ g, pv = some ⟨g, 0, none⟩ ∧ g < w1.heap.size ∧ w1.cell? ⟨g, j, none⟩ = some (.bool D[j]) := by
    rw [← hlen]
    rcases Nat.eq_zero_or_pos D.length with h0 | h0
    · rcases hown.2 with ⟨rfl, h0'⟩ | ⟨g, cap, cur, rfl, _⟩
      · exact ⟨none, 0, by rw [h0], fun j hj => by omega⟩
      · exact ⟨_, _, rfl, fun j hj => by omega⟩
    · obtain ⟨g, cap, rfl, _, hg, _, hc⟩ := own_open hown h0
      exact ⟨_, _, rfl, fun j hj => ⟨g, rfl, hg, hc j _ hj (by rw [bools, List.getElem?_map, List.getElem?_eq_getElem hj]; rfl)⟩⟩
  have hP1 := HP.out.ext hb
  have HP1 := Lib.hid hP1
  have HK1 := Lib.hid (HK.out.ext hb)
  have HC := Lib.hid hcells
  have HL := Lib.hid hlen
  clear hown hb hP1 hcells hlen HP HK
  go_wp2_with fail
  go_at_call 30
  refine (leaf_any s w1 HK1.out hs).mono ?_
  rintro e' w2 ⟨rfl, hb⟩
  have HB2 := Lib.hid (below_ext HB1.out hb)
  have HX2 := Lib.hid hb
  have hll := leafL_length s
  clear hb
  go_wp2
  go_loopw [43, 12] (fun a b wr => ∃ (j : Nat) (x : List UInt8), a = .int .i64 j ∧ b = .string (bs x) ∧ j ≤ np ∧ x.length = 32 ∧ (upL x (p.drop j) (D.drop j) == root) = R ∧ Below w1.heap.size w1 wr) (fun a _ _ => np - (intOf a).toNat)
  case atStart => exact ⟨0, leafL s, rfl, rfl, by omega, hll, HR3.out.symm, HX2.out⟩
  case round =>
  clear HX2 hll HR3
  obtain ⟨j, x, rfl, rfl, hj, hx32, hrel, hbw⟩ := hrel
  have HREL := Lib.hid hrel
  have HBW := Lib.hid hbw
  have hxs := bs_size x
  have hxl : x.length ≤ 1099511627776 := by omega
  have HX := Lib.hid hx32
  clear hrel hbw hx32
  by_cases hlt : j < np
  · have hj1 : j < p.length := by rw [← HNP.out]; exact hlt
    have hj2 : j < D.length := by rw [HL.out]; exact hlt
    obtain ⟨g1, o1, hp1, _, hg1, hc1⟩ := (HP1.out.ext HBW.out) j hj1
    obtain ⟨g2, hp2, hg2, hc2⟩ := HC.out j hj2
    have hc2 := (HBW.out.cell (p := ⟨g2, j, none⟩) hg2).trans hc2
    have hst := upL_step (x := x) hj1 hj2
    have hq := HPS.out _ (List.getElem_mem hj1)
    generalize p[j] = q at hc1 hst hq
    generalize D[j] = b at hc2 hst
    have HST := Lib.hid hst
    have hqs := bs_size q
    clear hst hg2 hg1
    subst hp1
    subst hp2
    go_wp2_with fail
    go_at_call 46
    refine (joined_any x q b wr hxl hq).mono ?_
    rintro e' w3 ⟨rfl, rfl⟩
    go_wp2_with fail
    go_at_call 23
    have hjl : (joinL x q b).length ≤ 281474976710656 := by unfold joinL; split <;> (rw [List.length_cons, List.length_append]; omega)
    refine (sum_l (joinL x q b) _ rfl _ (HK1.out.ext HBW.out) hjl).mono ?_
    rintro e' w4 ⟨rfl, hb⟩
    have HB4 := Lib.hid (below_ext HBW.out hb)
    have HREL2 : Hid ((upL (shaL (joinL x q b)) (p.drop (j + 1)) (D.drop (j + 1)) == root) = R) := Lib.hid (by rw [← HREL.out, HST.out])
    have hs32 := shaL_length (joinL x q b)
    clear hb hc1 hc2 hjl
    go_wp2
    go_roundw
    case rel => exact ⟨j + 1, _, by go_num, rfl, by omega, hs32, HREL2.out, HB4.out⟩
    case measure => simp [intOf]; omega
  · have hr : (x == root) = R := by
      rw [← HREL.out, List.drop_eq_nil_of_le (by rw [← HNP.out]; omega)]
      rfl
    have he : ((bs x).toList == (bs root).toList) = R := by rw [tl_bs, tl_bs]; exact hr
    clear hr
    have HBW2 := Lib.hid (below_ext HB1.out HBW.out)
    go_wp2
    go_ret
    exact ⟨rfl, HBW2.out⟩
end Go.Proofs.YtfnlehnhcekpkaaDoor

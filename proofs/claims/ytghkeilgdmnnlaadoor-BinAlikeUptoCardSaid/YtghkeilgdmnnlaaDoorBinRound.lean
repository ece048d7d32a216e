/- What is written is read as what it was; what is read is written as what it was: plain laws. No conditions. -/
import Derived.Test.YtghkeilgdmnnlaaDoorBinLists
set_option linter.unusedVariables false
set_option linter.unusedSimpArgs false
namespace Go.Proofs.YtghkeilgdmnnlaaDoor
open Go Go.RowKit
set_option maxRecDepth 100000

theorem zag_zig (n : Int) : zagN (zigN n) = n := by
  unfold zigN
  by_cases h : 0 ≤ n
  · rw [if_pos h, zagN, if_pos (by omega)]; omega
  · rw [if_neg h, zagN, if_neg (by omega)]; omega
theorem zig_zag (n : Nat) : zigN (zagN n) = n := by
  unfold zagN
  by_cases h : n % 2 = 0
  · rw [if_pos h, zigN, if_pos (by omega)]; omega
  · rw [if_neg h, zigN, if_neg (by omega)]; omega
theorem numP_text (n : Nat) (hn : n < 18446744073709551616) (rest : List UInt8) : numP (numL n ++ rest, false) = (n, (rest, false)) := by
  unfold numP
  simp only [readNum_numL n hn rest]
  rw [List.drop_left]
  rfl
theorem takeP_text (s rest : List UInt8) : takeP s.length (s ++ rest, false) = (s, (rest, false)) := by
  unfold takeP
  rw [if_neg (by simp)]
  simp
theorem manyP_text (n : Nat) (hn : n ≤ 64) (rest : List UInt8) : manyP (numL n ++ rest, false) = (n, (rest, false)) := by
  unfold manyP
  rw [numP_text n (by omega) rest, if_neg (by simp; omega)]
/-! A value's numbers are whole numbers of 64 bits. -/
mutual
def rngV : DVal → Prop
  | .mk k b n s l f => (-9223372036854775808 ≤ n ∧ n ≤ 9223372036854775807) ∧ rngL l ∧ rngF f
def rngL : List DVal → Prop
  | [] => True
  | v :: l => rngV v ∧ rngL l
def rngF : List (List UInt8 × DVal) → Prop
  | [] => True
  | (x, v) :: l => rngV v ∧ rngF l
end
theorem rngL_mk : ∀ {l : List DVal}, (∀ v ∈ l, rngV v) → rngL l
  | [], _ => trivial
  | v :: l, h => ⟨h v (by simp), rngL_mk (fun u hu => h u (by simp [hu]))⟩
theorem rngF_mk : ∀ {l : List (List UInt8 × DVal)}, (∀ p ∈ l, rngV p.2) → rngF l
  | [], _ => trivial
  | (x, v) :: l, h => ⟨h (x, v) (by simp), rngF_mk (fun u hu => h u (by simp [hu]))⟩
theorem rng_of : ∀ (m : Nat) (v : DVal) (S : Nat → Prop) (w : World) (cs : List Value), SizeOf.sizeOf v < m → HasVal S w v cs → rngV v := by
  intro m
  induction m with
  | zero => intro v S w cs h; omega
  | succ m ih =>
    intro v S w cs hm h
    obtain ⟨k, b, n, s, l, f⟩ := v
    obtain ⟨pl, cl, pf, cf, rfl, hb, hl, hf⟩ := hasVal_mk.1 h
    refine ⟨⟨hb.2.1, hb.2.2.1⟩, rngL_mk (fun v hv => ?_), rngF_mk (fun p hp => ?_)⟩
    · obtain ⟨i, hi, rfl⟩ := List.getElem_of_mem hv
      obtain ⟨g, o, cs, _, _, h3⟩ := hl i hi
      have hz := DVal.size_l (k := k) (b := b) (n := n) (s := s) (f := f) l[i] (List.getElem_mem _)
      exact ih _ _ _ _ (by omega) h3
    · obtain ⟨i, hi, rfl⟩ := List.getElem_of_mem hp
      obtain ⟨g, o, cs, _, _, h3⟩ := hf i hi
      have hz := DVal.size_f (k := k) (b := b) (n := n) (s := s) (l := l) f[i] (List.getElem_mem _)
      exact ih _ _ _ _ (by omega) h3
theorem HasVal.rng {S : Nat → Prop} {w : World} {v : DVal} {cs : List Value} (h : HasVal S w v cs) : rngV v := rng_of _ v S w cs (Nat.lt_succ_self _) h
/-- A value that is right itself has just what its kind has. -/
theorem bare_shape {k : Nat} {b : Bool} {n : Int} {s : List UInt8} {ll lf : Nat} (h : bareB (k : Int) b n s ll lf = true) :
    (k ≠ 1 → b = false) ∧ (k ≠ 2 → n = 0) ∧ (k ≠ 3 → k ≠ 4 → s = []) ∧ (k ≠ 5 → ll = 0) ∧ (k ≠ 6 → lf = 0) := by
  unfold bareB flatB at h
  have h := of_decide_eq_true h
  refine ⟨fun hk => ?_, fun hk => ?_, fun hk hk4 => ?_, fun hk => ?_, fun hk => ?_⟩
  · have := h.2.1; rwa [sel_f (by simp; omega)] at this
  · have := h.2.2.1; rwa [sel_f (by simp; omega)] at this
  · have := h.2.2.2.1; rwa [sel_f (by simp; omega)] at this
  · have := h.2.2.2.2.1; rwa [sel_f (by simp; omega)] at this
  · have := h.2.2.2.2.2; rwa [sel_f (by simp; omega)] at this
theorem nameE_len {x : List UInt8} (h : nameE x = 0) : x.length ≤ 1024 := by
  unfold nameE at h
  by_cases hc : x = [] ∨ 1024 < x.length
  · rw [if_pos hc] at h; cases h
  · omega
mutual
theorem rtV : ∀ (v : DVal) (d k : Nat), checkV d v = 0 → rngV v → d + k = 7 → 1 ≤ k → ∀ rest, valueP k (textV v ++ rest, false) = (v, (rest, false))
  | .mk kd b n s l f, d, k, h, hr, hdk, hk1, rest => by
    obtain ⟨k, rfl⟩ : ∃ k', k = k' + 1 := ⟨k - 1, by omega⟩
    rw [checkV] at h
    obtain ⟨h0, h⟩ := orE_0 h
    obtain ⟨hl, hf⟩ := orE_0 h
    obtain ⟨hk7, hbare, hs, hu, hll, hlf, hdep⟩ := why0_ok h0
    obtain ⟨p1, p2, p3, p4, p5⟩ := bare_shape hbare
    have hl0 : kd ≠ 5 → l = [] := fun hk => List.eq_nil_of_length_eq_zero (p4 hk)
    have hf0 : kd ≠ 6 → f = [] := fun hk => List.eq_nil_of_length_eq_zero (p5 hk)
    rw [rngV] at hr
    have hkk : kd = 0 ∨ kd = 1 ∨ kd = 2 ∨ kd = 3 ∨ kd = 4 ∨ kd = 5 ∨ kd = 6 := by omega
    rcases hkk with rfl | rfl | rfl | rfl | rfl | rfl | rfl
    · rw [p1 (by decide), p2 (by decide), p3 (by decide) (by decide), hl0 (by decide), hf0 (by decide)]
      rfl
    · rw [p2 (by decide), p3 (by decide) (by decide), hl0 (by decide), hf0 (by decide)]
      cases b <;> rfl
    · rw [p1 (by decide), p3 (by decide) (by decide), hl0 (by decide), hf0 (by decide)]
      have hz := numP_text (zigN n) (zigN_lt hr.1.1 hr.1.2) rest
      show valueP (k + 1) (3 :: (numL (zigN n) ++ rest), false) = _
      rw [valueP, if_neg (by decide)]
      simp only [hz, zag_zig]
      rfl
    · rw [p1 (by decide), p2 (by decide), hl0 (by decide), hf0 (by decide)]
      have hz := numP_text s.length (by omega) (s ++ rest)
      have ht := takeP_text s rest
      show valueP (k + 1) (4 :: ((numL s.length ++ s) ++ rest), false) = _
      rw [List.append_assoc, valueP, if_neg (by decide)]
      simp only [hz, ht]
      rfl
    · rw [p1 (by decide), p2 (by decide), hl0 (by decide), hf0 (by decide)]
      have hz := numP_text s.length (by omega) (s ++ rest)
      have ht := takeP_text s rest
      show valueP (k + 1) (5 :: ((numL s.length ++ s) ++ rest), false) = _
      rw [List.append_assoc, valueP, if_neg (by decide)]
      simp only [hz, ht]
      rfl
    · rw [p1 (by decide), p2 (by decide), p3 (by decide) (by decide), hf0 (by decide)]
      have hd := hdep (Or.inl rfl)
      have hz := manyP_text l.length hll (textL l ++ rest)
      have ht := rtL l (d + 1) k hl hr.2.1 (by omega) (by omega) rest
      show valueP (k + 1) (6 :: ((numL l.length ++ textL l) ++ rest), false) = _
      rw [List.append_assoc, valueP, if_neg (by decide)]
      simp only [hz, ht]
      rfl
    · rw [p1 (by decide), p2 (by decide), p3 (by decide) (by decide), hl0 (by decide)]
      have hd := hdep (Or.inr rfl)
      have hz := manyP_text f.length hlf (textF f ++ rest)
      have ht := rtF f (d + 1) [] k hf hr.2.2 (by omega) (by omega) rest
      show valueP (k + 1) (7 :: ((numL f.length ++ textF f) ++ rest), false) = _
      rw [List.append_assoc, valueP, if_neg (by decide)]
      simp only [hz, ht]
      rfl
theorem rtL : ∀ (l : List DVal) (d k : Nat), checkL d l = 0 → rngL l → d + k = 7 → 1 ≤ k → ∀ rest, repN (valueP k) l.length (textL l ++ rest, false) = (l, (rest, false))
  | [], _, _, _, _, _, _, rest => rfl
  | v :: l, d, k, h, hr, hdk, hk1, rest => by
    rw [checkL] at h
    obtain ⟨h0, h⟩ := orE_0 h
    rw [rngL] at hr
    have h1 := rtV v d k h0 hr.1 hdk hk1 (textL l ++ rest)
    have h2 := rtL l d k h hr.2 hdk hk1 rest
    rw [textL, List.append_assoc, List.length_cons, repN_more, h1]
    simp only [h2]
theorem rtF : ∀ (f : List (List UInt8 × DVal)) (d : Nat) (last : List UInt8) (k : Nat), checkF d last f = 0 → rngF f → d + k = 7 → 1 ≤ k → ∀ rest, repN (fieldP (valueP k)) f.length (textF f ++ rest, false) = (f, (rest, false))
  | [], _, _, _, _, _, _, _, rest => rfl
  | (x, v) :: f, d, last, k, h, hr, hdk, hk1, rest => by
    rw [checkF] at h
    obtain ⟨hn, h⟩ := orE_0 h
    obtain ⟨hn, _⟩ := orE_0 hn
    obtain ⟨h0, h⟩ := orE_0 h
    rw [rngF] at hr
    have hx := nameE_len hn
    have h1 := rtV v d k h0 hr.1 hdk hk1 (textF f ++ rest)
    have h2 := rtF f d x k h hr.2 hdk hk1 rest
    have hz := numP_text x.length (by omega) (x ++ (textV v ++ (textF f ++ rest)))
    have ht := takeP_text x (textV v ++ (textF f ++ rest))
    have hfp : fieldP (valueP k) (bytesL x ++ (textV v ++ (textF f ++ rest)), false) = ((x, v), (textF f ++ rest, false)) := by
      rw [bytesL, List.append_assoc]
      simp only [fieldP, hz, ht, h1]
    rw [textF, List.append_assoc, List.append_assoc, List.length_cons, repN_more, hfp]
    simp only [h2]
end
/-- What is written is read as what it was. -/
theorem read_text {v : DVal} (h : (wrP v).2 = 0) (hr : rngV v) : rdV (wrP v).1 = (v, 0) := by
  obtain ⟨hc, hl⟩ := wrP_ok.1 h
  have h7 := rtV v 0 7 hc hr rfl (by decide) []
  rw [List.append_nil] at h7
  rw [wrP_text h, rdV, if_neg (by omega), h7]
  simp [hc]
/-! What is read is written as what it was. -/
theorem numP_inv {l rest : List UInt8} {n : Nat} (h : numP (l, false) = (n, (rest, false))) : numL n ++ rest = l := by
  unfold numP at h
  cases hr : readNum l with
  | none => simp [hr] at h
  | some p =>
    obtain ⟨v, k⟩ := p
    simp [hr] at h
    obtain ⟨rfl, rfl⟩ := h
    rw [(readNum_some hr).1, List.take_append_drop]
theorem numP_bad (l : List UInt8) : (numP (l, true)).2.2 = true := by
  unfold numP
  cases hr : readNum l <;> simp [hr]
theorem takeP_inv {l s rest : List UInt8} {n : Nat} (h : takeP n (l, false) = (s, (rest, false))) : s ++ rest = l ∧ s.length = n := by
  unfold takeP at h
  by_cases hc : (l, false).2 = true ∨ (l, false).1.length < n
  · rw [if_pos hc] at h; simp at h
  · rw [if_neg hc] at h
    simp at h hc
    obtain ⟨rfl, rfl⟩ := h
    exact ⟨List.take_append_drop _ _, by simp; omega⟩
theorem takeP_bad (n : Nat) (l : List UInt8) : (takeP n (l, true)).2.2 = true := by
  unfold takeP
  rw [if_pos (Or.inl rfl)]
theorem manyP_inv {l rest : List UInt8} {n : Nat} (h : manyP (l, false) = (n, (rest, false))) : numL n ++ rest = l := by
  unfold manyP at h
  split at h
  · simp at h
  · exact numP_inv h
theorem valueP_bad : ∀ (k : Nat) (l : List UInt8), (valueP k (l, true)).2.2 = true
  | 0, _ => rfl
  | _ + 1, _ => rfl
theorem repN_inv {α : Type} (g : α → List UInt8) (f : St → α × St) (hf : ∀ l a rest, f (l, false) = (a, (rest, false)) → g a ++ rest = l) : ∀ (n : Nat) (l : List UInt8) (zs : List α) (rest : List UInt8), repN f n (l, false) = (zs, (rest, false)) → zs.length = n ∧ zs.flatMap g ++ rest = l
  | 0, l, zs, rest, h => by
    rw [repN_zero] at h
    simp only [Prod.mk.injEq] at h
    obtain ⟨rfl, rfl, _⟩ := h
    exact ⟨rfl, rfl⟩
  | n + 1, l, zs, rest, h => by
    rw [repN_more] at h
    obtain ⟨a, l2, b2, hfa⟩ : ∃ a l2 b2, f (l, false) = (a, (l2, b2)) := ⟨_, _, _, rfl⟩
    rw [hfa] at h
    simp only [Prod.mk.injEq] at h
    obtain ⟨rfl, h2⟩ := h
    cases b2
    · obtain ⟨bs2, l3, b3, hr⟩ : ∃ bs2 l3 b3, repN f n (l2, false) = (bs2, (l3, b3)) := ⟨_, _, _, rfl⟩
      rw [hr] at h2
      simp only [Prod.mk.injEq] at h2
      obtain ⟨rfl, rfl⟩ := h2
      obtain ⟨h3, h4⟩ := repN_inv g f hf n l2 bs2 l3 hr
      have h5 := hf l a l2 hfa
      refine ⟨by simp only [hr, List.length_cons, h3], ?_⟩
      simp only [hr, List.flatMap_cons, List.append_assoc, h4, h5]
    · rw [repN_bad] at h2
      simp at h2
theorem textL_flat : ∀ l : List DVal, textL l = l.flatMap textV
  | [] => rfl
  | v :: l => by rw [textL, textL_flat l]; rfl
theorem textF_flat : ∀ l : List (List UInt8 × DVal), textF l = l.flatMap fun p => bytesL p.1 ++ textV p.2
  | [] => rfl
  | (x, v) :: l => by rw [textF, textF_flat l]; rfl
theorem u8_ext {a b : UInt8} (h : a = b) : a = b := h
theorem valueP_inv : ∀ (k : Nat) (l : List UInt8) (v : DVal) (rest : List UInt8), valueP k (l, false) = (v, (rest, false)) → textV v ++ rest = l := by
  intro k
  induction k with
  | zero => intro l v rest h; simp [valueP] at h
  | succ k ih =>
    intro l v rest h
    cases l with
    | nil => simp [valueP] at h
    | cons b l =>
      rw [valueP, if_neg (by decide)] at h
      (try simp only [] at h)
      have hfld : ∀ l a rest, fieldP (valueP k) (l, false) = (a, (rest, false)) → (bytesL a.1 ++ textV a.2) ++ rest = l := by
        intro l a rest h
        obtain ⟨n, l1, b1, h1⟩ : ∃ n l1 b1, numP (l, false) = (n, (l1, b1)) := ⟨_, _, _, rfl⟩
        obtain ⟨s, l2, b2, h2⟩ : ∃ s l2 b2, takeP n (l1, b1) = (s, (l2, b2)) := ⟨_, _, _, rfl⟩
        obtain ⟨u, l3, b3, h3⟩ : ∃ u l3 b3, valueP k (l2, b2) = (u, (l3, b3)) := ⟨_, _, _, rfl⟩
        simp only [fieldP, h1, h2, h3, Prod.mk.injEq] at h
        obtain ⟨rfl, rfl, rfl⟩ := h
        cases b2
        · cases b1
          · have e1 := numP_inv h1
            obtain ⟨e2, e3⟩ := takeP_inv h2
            have e4 := ih _ _ _ h3
            show (bytesL s ++ textV u) ++ l3 = l
            rw [List.append_assoc, e4, bytesL, List.append_assoc, e2, e3, e1]
          · have := takeP_bad n l1
            rw [h2] at this
            cases this
        · have := valueP_bad k l2
          rw [h3] at this
          cases this
      by_cases b0 : b = 0
      · rw [if_pos b0] at h
        simp only [Prod.mk.injEq, and_true] at h
        obtain ⟨rfl, rfl⟩ := h
        rw [b0]; rfl
      rw [if_neg b0] at h
      by_cases b1 : b = 1
      · rw [if_pos b1] at h
        simp only [Prod.mk.injEq, and_true] at h
        obtain ⟨rfl, rfl⟩ := h
        rw [b1]; rfl
      rw [if_neg b1] at h
      by_cases b2 : b = 2
      · rw [if_pos b2] at h
        simp only [Prod.mk.injEq, and_true] at h
        obtain ⟨rfl, rfl⟩ := h
        rw [b2]; rfl
      rw [if_neg b2] at h
      by_cases b3 : b = 3
      · rw [if_pos b3] at h
        obtain ⟨n, l1, c1, h1⟩ : ∃ n l1 c1, numP (l, false) = (n, (l1, c1)) := ⟨_, _, _, rfl⟩
        rw [h1] at h
        simp only [Prod.mk.injEq] at h
        obtain ⟨rfl, rfl, rfl⟩ := h
        have e1 := numP_inv h1
        rw [b3]
        show 3 :: (numL (zigN (zagN n)) ++ l1) = 3 :: l
        rw [zig_zag, e1]
      rw [if_neg b3] at h
      by_cases b4 : b = 4
      · rw [if_pos b4] at h
        obtain ⟨n, l1, c1, h1⟩ : ∃ n l1 c1, numP (l, false) = (n, (l1, c1)) := ⟨_, _, _, rfl⟩
        obtain ⟨s, l2, c2, h2⟩ : ∃ s l2 c2, takeP n (l1, c1) = (s, (l2, c2)) := ⟨_, _, _, rfl⟩
        rw [h1] at h
        simp only [h2, Prod.mk.injEq] at h
        obtain ⟨rfl, rfl, rfl⟩ := h
        cases c1
        · have e1 := numP_inv h1
          obtain ⟨e2, e3⟩ := takeP_inv h2
          rw [b4]
          show 4 :: ((numL s.length ++ s) ++ l2) = 4 :: l
          rw [List.append_assoc, e2, e3, e1]
        · have := takeP_bad n l1
          rw [h2] at this
          cases this
      rw [if_neg b4] at h
      by_cases b5 : b = 5
      · rw [if_pos b5] at h
        obtain ⟨n, l1, c1, h1⟩ : ∃ n l1 c1, numP (l, false) = (n, (l1, c1)) := ⟨_, _, _, rfl⟩
        obtain ⟨s, l2, c2, h2⟩ : ∃ s l2 c2, takeP n (l1, c1) = (s, (l2, c2)) := ⟨_, _, _, rfl⟩
        rw [h1] at h
        simp only [h2, Prod.mk.injEq] at h
        obtain ⟨rfl, rfl, rfl⟩ := h
        cases c1
        · have e1 := numP_inv h1
          obtain ⟨e2, e3⟩ := takeP_inv h2
          rw [b5]
          show 5 :: ((numL s.length ++ s) ++ l2) = 5 :: l
          rw [List.append_assoc, e2, e3, e1]
        · have := takeP_bad n l1
          rw [h2] at this
          cases this
      rw [if_neg b5] at h
      by_cases b6 : b = 6
      · rw [if_pos b6] at h
        obtain ⟨n, l1, c1, h1⟩ : ∃ n l1 c1, manyP (l, false) = (n, (l1, c1)) := ⟨_, _, _, rfl⟩
        obtain ⟨s, l2, c2, h2⟩ : ∃ s l2 c2, repN (valueP k) n (l1, c1) = (s, (l2, c2)) := ⟨_, _, _, rfl⟩
        rw [h1] at h
        simp only [h2, Prod.mk.injEq] at h
        obtain ⟨rfl, rfl, rfl⟩ := h
        cases c1
        · have e1 := manyP_inv h1
          obtain ⟨e2, e3⟩ := repN_inv textV (valueP k) ih n l1 s l2 h2
          rw [b6]
          show 6 :: ((numL s.length ++ textL s) ++ l2) = 6 :: l
          rw [List.append_assoc, textL_flat, e3, e2, e1]
        · rw [repN_bad] at h2
          simp at h2
      rw [if_neg b6] at h
      by_cases b7 : b = 7
      · rw [if_pos b7] at h
        obtain ⟨n, l1, c1, h1⟩ : ∃ n l1 c1, manyP (l, false) = (n, (l1, c1)) := ⟨_, _, _, rfl⟩
        obtain ⟨s, l2, c2, h2⟩ : ∃ s l2 c2, repN (fieldP (valueP k)) n (l1, c1) = (s, (l2, c2)) := ⟨_, _, _, rfl⟩
        rw [h1] at h
        simp only [h2, Prod.mk.injEq] at h
        obtain ⟨rfl, rfl, rfl⟩ := h
        cases c1
        · have e1 := manyP_inv h1
          obtain ⟨e2, e3⟩ := repN_inv (fun p => bytesL p.1 ++ textV p.2) (fieldP (valueP k)) hfld n l1 s l2 h2
          rw [b7]
          show 7 :: ((numL s.length ++ textF s) ++ l2) = 7 :: l
          rw [List.append_assoc, textF_flat, e3, e2, e1]
        · rw [repN_bad] at h2
          simp at h2
      rw [if_neg b7] at h
      simp at h
/-- What is read is right, and written as what it was. -/
theorem write_read {s : List UInt8} (h : (rdV s).2 = 0) : wrP (rdV s).1 = (s, 0) ∧ checkV 0 (rdV s).1 = 0 := by
  unfold rdV at h ⊢
  by_cases h16 : 16384 < s.length
  · rw [if_pos h16] at h; cases h
  · rw [if_neg h16] at h ⊢
    by_cases hc : (valueP 7 (s, false)).2.2 = true ∨ (valueP 7 (s, false)).2.1 ≠ [] ∨ checkV 0 (valueP 7 (s, false)).1 ≠ 0
    · rw [if_pos hc] at h; cases h
    · rw [if_neg hc]
      obtain ⟨v, l, b, hv⟩ : ∃ v l b, valueP 7 (s, false) = (v, (l, b)) := ⟨_, _, _, rfl⟩
      rw [hv] at hc ⊢
      simp only [not_or, ne_eq, Decidable.not_not, Bool.not_eq_true] at hc
      obtain ⟨rfl, rfl, hck⟩ := hc
      have ht := valueP_inv 7 s v [] hv
      rw [List.append_nil] at ht
      refine ⟨?_, hck⟩
      unfold wrP
      rw [if_neg (by simpa using hck), ht, if_neg h16]
theorem rdV_zero {s : List UInt8} (h : (rdV s).2 ≠ 0) : (rdV s).1 = .zero := by
  unfold rdV at h ⊢
  repeat' split
  · rfl
  · rfl
  · rename_i h1 h2
    rw [if_neg h1, if_neg h2] at h
    exact absurd rfl h
end Go.Proofs.YtghkeilgdmnnlaaDoor

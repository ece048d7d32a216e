/- The order of values, in plain words: antisymmetric, transitive, 0 for one value. No conditions. -/
import Derived.Test.YthcojmpigdojoaaDoorCmpV
import Derived.Test.YthcojmpigdojoaaDoorChkPure
set_option linter.unusedVariables false
set_option linter.unusedSimpArgs false
namespace Go.Proofs.YthcojmpigdojoaaDoor
open Go

theorem bytesLess_trans : ∀ x y z : List UInt8, Op.bytesLess x y = true → Op.bytesLess y z = true → Op.bytesLess x z = true
  | _, [], _, h, _ => by cases ‹List UInt8› <;> simp [Op.bytesLess] at h
  | _, _ :: _, [], _, h => by simp [Op.bytesLess] at h
  | [], _ :: _, _ :: _, _, _ => by simp [Op.bytesLess]
  | a :: x, b :: y, c :: z, h1, h2 => by
    have ih := bytesLess_trans x y z
    simp only [Op.bytesLess] at h1 h2 ih ⊢
    by_cases hab : a = b
    · subst hab
      by_cases hac : a = c
      · subst hac; simp_all
      · by_cases h3 : a < c
        · simp [hac, h3]
        · simp [hac, h3] at h2
    · by_cases h3 : a < b
      · by_cases hbc : b = c
        · subst hbc; simp [hab, h3]
        · by_cases h4 : b < c
          · have h5 : a < c := UInt8.lt_trans h3 h4
            have h6 : a ≠ c := UInt8.ne_of_lt h5
            simp [h5, h6]
          · simp [hbc, h4] at h2
      · simp [hab, h3] at h1

theorem orE_0 {a b : Int} (h : orE a b = 0) : a = 0 ∧ b = 0 := by
  unfold orE at h
  split at h
  · exact ⟨by assumption, h⟩
  · exact absurd h (by assumption)
theorem bare_shape {k : Nat} {b : Bool} {n : Int} {s : List UInt8} {ll lf : Nat} (h : bareB (k : Int) b n s ll lf = true) :
    (k ≠ 1 → b = false) ∧ (k ≠ 2 → n = 0) ∧ (k ≠ 3 → k ≠ 4 → s = []) ∧ (k ≠ 5 → ll = 0) ∧ (k ≠ 6 → lf = 0) := by
  unfold bareB flatB at h
  have h := of_decide_eq_true h
  refine ⟨fun hk => ?_, fun hk => ?_, fun hk hk4 => ?_, fun hk => ?_, fun hk => ?_⟩
  · have := h.2.1; rwa [sel_f (by simp; omega)] at this
  · have := h.2.2.1; rwa [sel_f (by simp; omega)] at this
  · have := h.2.2.2.1; rwa [sel_f (by simp; omega)] at this
  · have := h.2.2.2.2.1; rwa [sel_f (by simp; omega)] at this
  · have := h.2.2.2.2.2; rwa [sel_f (by simp; omega)] at this
theorem orC_0 {a b : Int} (h : orC a b = 0) : a = 0 ∧ b = 0 := by
  unfold orC at h
  split at h
  · exact ⟨by assumption, h⟩
  · exact absurd h (by assumption)
theorem cmpI_0 {a b : Int} (h : cmpI a b = 0) : a = b := by
  unfold cmpI at h
  split at h
  · cases h
  · split at h
    · cases h
    · omega
theorem cmpI_refl (a : Int) : cmpI a a = 0 := by simp [cmpI]
theorem cmpS_0 {x y : List UInt8} (h : cmpS x y = 0) : x = y := by
  unfold cmpS at h
  split at h
  · cases h
  · split at h
    · cases h
    · exact bytesLess_conn x y (by simp_all) (by simp_all)
theorem cmpS_refl (x : List UInt8) : cmpS x x = 0 := by simp [cmpS, bytesLess_irrefl]
mutual
theorem cmpV_refl : ∀ a : DVal, cmpV a a = 0
  | .mk k b n s l f => by
    rw [cmpV, if_neg (by simp), cmpL_refl l, cmpF_refl f, cmpS_refl, cmpI_refl]
    repeat' split
    all_goals first | rfl | simp_all
theorem cmpL_refl : ∀ l : List DVal, cmpL l l = 0
  | [] => by rw [cmpL]
  | a :: l => by rw [cmpL, cmpV_refl a, cmpL_refl l]; rfl
theorem cmpF_refl : ∀ l : List (List UInt8 × DVal), cmpF l l = 0
  | [] => by rw [cmpF]
  | (x, a) :: l => by rw [cmpF, cmpV_refl a, cmpF_refl l, cmpS_refl]; rfl
end
mutual
theorem cmpV_eq : ∀ (a b : DVal) (d e : Nat), checkV d a = 0 → checkV e b = 0 → cmpV a b = 0 → a = b
  | .mk k1 b1 n1 s1 l1 f1, .mk k2 b2 n2 s2 l2 f2, d, e, ha, hb, h => by
    rw [checkV] at ha hb
    obtain ⟨a0, a1⟩ := orE_0 ha
    obtain ⟨aL, aF⟩ := orE_0 a1
    obtain ⟨c0, c1⟩ := orE_0 hb
    obtain ⟨cL, cF⟩ := orE_0 c1
    obtain ⟨ak, abare, _⟩ := why0_ok a0
    obtain ⟨ck, cbare, _⟩ := why0_ok c0
    obtain ⟨p1, p2, p3, p4, p5⟩ := bare_shape abare
    obtain ⟨q1, q2, q3, q4, q5⟩ := bare_shape cbare
    rw [cmpV] at h
    by_cases hk : k1 = k2
    · subst hk
      rw [if_neg (by simp)] at h
      have l0 : k1 ≠ 5 → l1 = l2 := fun hk => by rw [List.eq_nil_of_length_eq_zero (p4 hk), List.eq_nil_of_length_eq_zero (q4 hk)]
      have f0 : k1 ≠ 6 → f1 = f2 := fun hk => by rw [List.eq_nil_of_length_eq_zero (p5 hk), List.eq_nil_of_length_eq_zero (q5 hk)]
      have b0 : k1 ≠ 1 → b1 = b2 := fun hk => by rw [p1 hk, q1 hk]
      have n0 : k1 ≠ 2 → n1 = n2 := fun hk => by rw [p2 hk, q2 hk]
      have s0 : k1 ≠ 3 → k1 ≠ 4 → s1 = s2 := fun hk hk4 => by rw [p3 hk hk4, q3 hk hk4]
      have hk7 : k1 < 7 := by omega
      have hbb : b1 = b2 := by
        by_cases h1 : k1 = 1
        · rw [if_pos h1] at h
          cases b1 <;> cases b2 <;> simp at h ⊢
        · exact b0 h1
      have hnn : n1 = n2 := by
        by_cases h2 : k1 = 2
        · rw [if_neg (by omega), if_pos h2] at h; exact cmpI_0 h
        · exact n0 h2
      have hss : s1 = s2 := by
        by_cases h3 : k1 = 3 ∨ k1 = 4
        · rw [if_neg (by omega), if_neg (by omega), if_pos h3] at h; exact cmpS_0 h
        · exact s0 (by omega) (by omega)
      have hll : l1 = l2 := by
        by_cases h5 : k1 = 5
        · rw [if_neg (by omega), if_neg (by omega), if_neg (by omega), if_pos h5] at h; exact cmpL_eq l1 l2 _ _ aL cL h
        · exact l0 h5
      have hff : f1 = f2 := by
        by_cases h6 : k1 = 6
        · rw [if_neg (by omega), if_neg (by omega), if_neg (by omega), if_neg (by omega), if_pos h6] at h; exact cmpF_eq f1 f2 _ _ _ _ aF cF h
        · exact f0 h6
      rw [hbb, hnn, hss, hll, hff]
    · rw [if_pos hk] at h
      have := cmpI_0 h
      exact absurd (by omega) hk
theorem cmpL_eq : ∀ (l m : List DVal) (d e : Nat), checkL d l = 0 → checkL e m = 0 → cmpL l m = 0 → l = m
  | [], [], _, _, _, _, _ => rfl
  | [], _ :: _, _, _, _, _, h => by rw [cmpL] at h; cases h
  | _ :: _, [], _, _, _, _, h => by rw [cmpL] at h; cases h
  | a :: l, b :: m, d, e, ha, hb, h => by
    rw [checkL] at ha hb
    rw [cmpL] at h
    obtain ⟨h1, h2⟩ := orC_0 h
    rw [cmpV_eq a b d e (orE_0 ha).1 (orE_0 hb).1 h1, cmpL_eq l m d e (orE_0 ha).2 (orE_0 hb).2 h2]
theorem cmpF_eq : ∀ (l m : List (List UInt8 × DVal)) (d e : Nat) (x y : List UInt8), checkF d x l = 0 → checkF e y m = 0 → cmpF l m = 0 → l = m
  | [], [], _, _, _, _, _, _, _ => rfl
  | [], _ :: _, _, _, _, _, _, _, h => by rw [cmpF] at h; cases h
  | (_, _) :: _, [], _, _, _, _, _, _, h => by rw [cmpF] at h; cases h
  | (u, a) :: l, (v, b) :: m, d, e, x, y, ha, hb, h => by
    rw [checkF] at ha hb
    rw [cmpF] at h
    obtain ⟨h1, h2⟩ := orC_0 h
    obtain ⟨h3, h4⟩ := orC_0 h1
    have ha2 := orE_0 (orE_0 ha).2
    have hb2 := orE_0 (orE_0 hb).2
    rw [cmpS_0 h3, cmpV_eq a b d e ha2.1 hb2.1 h4, cmpF_eq l m d e u v ha2.2 hb2.2 h2]
end
/-- Three answers that fit: of a and b, of b and c, of a and c. -/
def T3 (x y z : Int) : Prop := x ≤ 0 → y ≤ 0 → z ≤ 0 ∧ (z = 0 → x = 0 ∧ y = 0)
theorem T3.or {x1 y1 z1 x2 y2 z2 : Int} (h1 : T3 x1 y1 z1) (h2 : T3 x2 y2 z2) : T3 (orC x1 x2) (orC y1 y2) (orC z1 z2) := by
  unfold T3 orC at *
  repeat' split
  all_goals omega
theorem T3.zero : T3 0 0 0 := fun _ _ => ⟨by omega, fun _ => ⟨rfl, rfl⟩⟩
theorem cmpI_t3 (a b c : Int) : T3 (cmpI a b) (cmpI b c) (cmpI a c) := by
  unfold T3 cmpI
  repeat' split
  all_goals omega
theorem cmpS_le {a b : List UInt8} (h : cmpS a b ≤ 0) : (Op.bytesLess a b = true ∧ cmpS a b = -1) ∨ a = b := by
  unfold cmpS at h ⊢
  split at h
  · rename_i h1; exact .inl ⟨h1, if_pos h1⟩
  · split at h
    · omega
    · rename_i h1 h2; exact .inr (bytesLess_conn a b (by simpa using h1) (by simpa using h2))
theorem cmpS_same (a : List UInt8) : cmpS a a = 0 := by simp [cmpS, bytesLess_irrefl]
theorem cmpS_lt {a b : List UInt8} (h : Op.bytesLess a b = true) : cmpS a b = -1 := if_pos h
theorem cmpS_t3 (a b c : List UInt8) : T3 (cmpS a b) (cmpS b c) (cmpS a c) := by
  intro hx hy
  rcases cmpS_le hx with ⟨h1, e1⟩ | rfl
  · rcases cmpS_le hy with ⟨h2, e2⟩ | rfl
    · rw [cmpS_lt (bytesLess_trans _ _ _ h1 h2)]; omega
    · rw [e1]; omega
  · rw [cmpS_same]
    exact ⟨hy, fun h => ⟨rfl, h⟩⟩
theorem cmpS_neg (a b : List UInt8) : cmpS b a = - cmpS a b := by
  unfold cmpS
  by_cases h1 : Op.bytesLess a b = true
  · rw [if_pos h1, if_neg (by simp [bytesLess_asymm a b h1]), if_pos h1]; rfl
  · by_cases h2 : Op.bytesLess b a = true
    · rw [if_pos h2, if_neg h1, if_pos h2]
    · simp [h1, h2]
theorem cmpI_neg (a b : Int) : cmpI b a = - cmpI a b := by
  unfold cmpI
  repeat' split
  all_goals omega
theorem orC_neg (a b : Int) : orC (-a) (-b) = - orC a b := by
  unfold orC
  repeat' split
  all_goals omega

theorem cmpV_like (k : Nat) (b b' : Bool) (n n' : Int) (s s' : List UInt8) (l l' : List DVal) (f f' : List (List UInt8 × DVal)) :
    cmpV (.mk k b n s l f) (.mk k b' n' s' l' f') = if k = 1 then (if b = b' then 0 else if b' then -1 else 1) else if k = 2 then cmpI n n' else if k = 3 ∨ k = 4 then cmpS s s' else if k = 5 then cmpL l l' else if k = 6 then cmpF f f' else 0 := by
  rw [cmpV, if_neg (by simp)]
theorem cmpV_un {k k' : Nat} (h : k ≠ k') (b b' : Bool) (n n' : Int) (s s' : List UInt8) (l l' : List DVal) (f f' : List (List UInt8 × DVal)) :
    cmpV (.mk k b n s l f) (.mk k' b' n' s' l' f') = cmpI k k' := by
  rw [cmpV, if_pos h]
mutual
theorem cmpV_neg : ∀ a b : DVal, cmpV b a = - cmpV a b
  | .mk k b n s l f, .mk k' b' n' s' l' f' => by
    by_cases hk : k = k'
    · subst hk
      rw [cmpV_like, cmpV_like, cmpL_neg l l', cmpF_neg f f', cmpS_neg s s', cmpI_neg n n']
      by_cases h1 : k = 1
      · rw [if_pos h1, if_pos h1]; cases b <;> cases b' <;> rfl
      rw [if_neg h1, if_neg h1]
      repeat' split
      all_goals rfl
    · rw [cmpV_un hk, cmpV_un (Ne.symm hk), cmpI_neg]
theorem cmpL_neg : ∀ l m : List DVal, cmpL m l = - cmpL l m
  | [], [] => by rw [cmpL]; rfl
  | [], _ :: _ => by rw [cmpL, cmpL]; rfl
  | _ :: _, [] => by rw [cmpL, cmpL]
  | a :: l, b :: m => by rw [cmpL, cmpL, cmpV_neg a b, cmpL_neg l m, orC_neg]
theorem cmpF_neg : ∀ l m : List (List UInt8 × DVal), cmpF m l = - cmpF l m
  | [], [] => by rw [cmpF]; rfl
  | [], _ :: _ => by rw [cmpF, cmpF]; rfl
  | _ :: _, [] => by rw [cmpF, cmpF]
  | (x, a) :: l, (y, b) :: m => by rw [cmpF, cmpF, cmpV_neg a b, cmpF_neg l m, cmpS_neg x y, orC_neg, orC_neg]
end
theorem b3 (p q r : Bool) : T3 (if p = q then 0 else if q then -1 else 1) (if q = r then 0 else if r then -1 else 1) (if p = r then 0 else if r then -1 else 1) := by
  cases p <;> cases q <;> cases r <;> (unfold T3; simp)
mutual
theorem cmpV_t3 : ∀ a b c : DVal, T3 (cmpV a b) (cmpV b c) (cmpV a c)
  | .mk k1 b1 n1 s1 l1 f1, .mk k2 b2 n2 s2 l2 f2, .mk k3 b3' n3 s3 l3 f3 => by
    by_cases h12 : k1 = k2
    · subst h12
      by_cases h13 : k1 = k3
      · subst h13
        rw [cmpV_like, cmpV_like, cmpV_like]
        by_cases h1 : k1 = 1
        · rw [if_pos h1, if_pos h1, if_pos h1]; exact b3 b1 b2 b3'
        rw [if_neg h1, if_neg h1, if_neg h1]
        by_cases h2 : k1 = 2
        · rw [if_pos h2, if_pos h2, if_pos h2]; exact cmpI_t3 _ _ _
        rw [if_neg h2, if_neg h2, if_neg h2]
        by_cases h3 : k1 = 3 ∨ k1 = 4
        · rw [if_pos h3, if_pos h3, if_pos h3]; exact cmpS_t3 _ _ _
        rw [if_neg h3, if_neg h3, if_neg h3]
        by_cases h5 : k1 = 5
        · rw [if_pos h5, if_pos h5, if_pos h5]; exact cmpL_t3 l1 l2 l3
        rw [if_neg h5, if_neg h5, if_neg h5]
        by_cases h6 : k1 = 6
        · rw [if_pos h6, if_pos h6, if_pos h6]; exact cmpF_t3 f1 f2 f3
        rw [if_neg h6, if_neg h6, if_neg h6]
        exact T3.zero
      · rw [cmpV_un h13, cmpV_un h13]
        intro _ hy
        have : cmpI (k1 : Int) k3 ≠ 0 := by unfold cmpI; repeat' split; all_goals omega
        exact ⟨hy, fun h => absurd h this⟩
    · by_cases h23 : k2 = k3
      · subst h23
        rw [cmpV_un h12, cmpV_un h12]
        intro hx _
        have : cmpI (k1 : Int) k2 ≠ 0 := by unfold cmpI; repeat' split; all_goals omega
        exact ⟨hx, fun h => absurd h this⟩
      · rw [cmpV_un h12, cmpV_un h23]
        intro hx hy
        have : cmpI (k1 : Int) k2 = -1 := by unfold cmpI at hx ⊢; repeat' split; all_goals omega
        have h2 : cmpI (k2 : Int) k3 = -1 := by unfold cmpI at hy ⊢; repeat' split; all_goals omega
        have h3 : k1 < k3 := by
          unfold cmpI at this h2
          repeat' split at this
          all_goals repeat' split at h2
          all_goals omega
        rw [cmpV_un (by omega)]
        unfold cmpI
        rw [if_pos (by omega)]
        omega
theorem cmpL_t3 : ∀ l m n : List DVal, T3 (cmpL l m) (cmpL m n) (cmpL l n)
  | [], [], [] => by rw [cmpL]; exact T3.zero
  | [], [], _ :: _ => by rw [cmpL, cmpL]; unfold T3; omega
  | [], _ :: _, [] => by rw [cmpL, cmpL, cmpL]; unfold T3; omega
  | [], _ :: _, _ :: _ => by rw [cmpL, cmpL, cmpL]; unfold T3; omega
  | _ :: _, [], _ => by rw [cmpL]; unfold T3; omega
  | _ :: _, _ :: _, [] => by rw [cmpL, cmpL, cmpL]; unfold T3; omega
  | a :: l, b :: m, c :: n => by rw [cmpL, cmpL, cmpL]; exact (cmpV_t3 a b c).or (cmpL_t3 l m n)
theorem cmpF_t3 : ∀ l m n : List (List UInt8 × DVal), T3 (cmpF l m) (cmpF m n) (cmpF l n)
  | [], [], [] => by rw [cmpF]; exact T3.zero
  | [], [], _ :: _ => by rw [cmpF, cmpF]; unfold T3; omega
  | [], _ :: _, [] => by rw [cmpF, cmpF, cmpF]; unfold T3; omega
  | [], _ :: _, _ :: _ => by rw [cmpF, cmpF, cmpF]; unfold T3; omega
  | _ :: _, [], _ => by rw [cmpF]; unfold T3; omega
  | _ :: _, _ :: _, [] => by rw [cmpF, cmpF, cmpF]; unfold T3; omega
  | (x, a) :: l, (y, b) :: m, (z, c) :: n => by rw [cmpF, cmpF, cmpF]; exact ((cmpS_t3 x y z).or (cmpV_t3 a b c)).or (cmpF_t3 l m n)
end
mutual
theorem cmpV_small : ∀ a b : DVal, -1 ≤ cmpV a b ∧ cmpV a b ≤ 1
  | .mk k1 b1 n1 s1 l1 f1, .mk k2 b2 n2 s2 l2 f2 => by
    have h1 := cmpL_small l1 l2
    have h2 := cmpF_small f1 f2
    rw [cmpV]
    unfold cmpI cmpS
    repeat' split
    all_goals omega
theorem cmpL_small : ∀ l m : List DVal, -1 ≤ cmpL l m ∧ cmpL l m ≤ 1
  | [], [] => by rw [cmpL]; omega
  | [], _ :: _ => by rw [cmpL]; omega
  | _ :: _, [] => by rw [cmpL]; omega
  | a :: l, b :: m => by
    have h1 := cmpV_small a b
    have h2 := cmpL_small l m
    rw [cmpL]
    unfold orC
    split <;> omega
theorem cmpF_small : ∀ l m : List (List UInt8 × DVal), -1 ≤ cmpF l m ∧ cmpF l m ≤ 1
  | [], [] => by rw [cmpF]; omega
  | [], _ :: _ => by rw [cmpF]; omega
  | _ :: _, [] => by rw [cmpF]; omega
  | (x, a) :: l, (y, b) :: m => by
    have h1 := cmpV_small a b
    have h2 := cmpF_small l m
    rw [cmpF]
    unfold orC cmpS
    repeat' split
    all_goals omega
end
end Go.Proofs.YthcojmpigdojoaaDoor

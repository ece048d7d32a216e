/- Laws of Put and Drop as plain functions. No conditions. -/
import Derived.Test.YthcojmpigdojoaaDoorRefGet
import Derived.Test.YthcojmpigdojoaaDoorOrd
set_option linter.unusedVariables false
set_option linter.unusedSimpArgs false
namespace Go.Proofs.YthcojmpigdojoaaDoor
open Go Go.RowKit

theorem isName_iff {u v : List UInt8} : isName u v = true ↔ v = u := by unfold isName; exact beq_iff_eq
theorem isName_self (u : List UInt8) : isName u u = true := isName_iff.2 rfl
theorem isName_no {u v : List UInt8} (h : ¬ u = v) : isName u v = false := by
  cases e : isName u v
  · rfl
  · exact absurd (isName_iff.1 e).symm h
theorem isAbove_iff {u v : List UInt8} : isAbove u v = true ↔ Op.bytesLess u v = true := by
  unfold isAbove
  constructor
  · intro h
    rw [Bool.and_eq_true, Bool.not_eq_true', Bool.not_eq_true'] at h
    cases e : Op.bytesLess u v
    · have := bytesLess_conn v u h.1 e
      rw [this, isName_self] at h
      exact absurd h.2 (by decide)
    · rfl
  · intro h
    rw [bytesLess_asymm u v h, isName_no (fun e => by rw [e, bytesLess_irrefl] at h; cases h)]
    rfl
theorem gtB_above (x y : List UInt8) : gtB x y = isAbove y x := by
  unfold gtB isAbove isName
  rw [Bool.not_or]
theorem isAbove_trans {u v z : List UInt8} (h1 : isAbove u v = true) (h2 : isAbove v z = true) : isAbove u z = true :=
  isAbove_iff.2 (bytesLess_trans u v z (isAbove_iff.1 h1) (isAbove_iff.1 h2))
theorem isAbove_no {u v : List UInt8} (h : isAbove u v = true) : isAbove v u = false ∧ isName u v = false ∧ isName v u = false := by
  have h1 := isAbove_iff.1 h
  have hne : ¬ u = v := fun e => by rw [e, bytesLess_irrefl] at h1; cases h1
  refine ⟨?_, isName_no hne, isName_no (fun e => hne e.symm)⟩
  cases e : isAbove v u
  · rfl
  · have := isAbove_iff.1 e
    rw [bytesLess_asymm u v h1] at this
    cases this
theorem tri (u v : List UInt8) : u = v ∨ isAbove u v = true ∨ isAbove v u = true := by
  by_cases h : u = v
  · exact .inl h
  · right
    cases h1 : Op.bytesLess u v
    · cases h2 : Op.bytesLess v u
      · exact absurd (bytesLess_conn u v h1 h2) h
      · exact .inr (isAbove_iff.2 h2)
    · exact .inl (isAbove_iff.2 h1)
theorem isAbove_self (u : List UInt8) : isAbove u u = false := by
  cases e : isAbove u u
  · rfl
  · have := isAbove_iff.1 e
    rw [bytesLess_irrefl] at this
    cases this
/-! What is found. -/
theorem fstF_cons (p : List UInt8) (q : List UInt8 × DVal) (f : List (List UInt8 × DVal)) : fstF p (q :: f) = if isName p q.1 then some q.2 else fstF p f := by
  unfold fstF
  rw [List.find?_cons]
  cases isName p q.1 <;> rfl
theorem fst_set (name : List UInt8) (x : DVal) : ∀ f, (f.any fun p => isName name p.1) = true → fstF name (setF name x f) = some x
  | [], h => by cases h
  | p :: f, h => by
    rw [setF]
    by_cases hp : isName name p.1 = true
    · rw [if_pos hp, fstF_cons, if_pos hp]
    · rw [if_neg hp, fstF_cons, if_neg hp]
      rw [List.any_cons, show isName name p.1 = false by simpa using hp, Bool.false_or] at h
      exact fst_set name x f h
theorem fst_ins (name : List UInt8) (x : DVal) : ∀ f, (f.any fun p => isName name p.1) = false → fstF name (insF name x f) = some x
  | [], h => by rw [insF, fstF_cons, if_pos (isName_self name)]
  | p :: f, h => by
    rw [List.any_cons, Bool.or_eq_false_iff] at h
    rw [insF]
    by_cases hp : isAbove name p.1 = true
    · rw [if_pos hp, fstF_cons, if_pos (isName_self name)]
    · rw [if_neg hp, fstF_cons, h.1]
      exact fst_ins name x f h.2
theorem fst_put (name : List UInt8) (x : DVal) (f : List (List UInt8 × DVal)) : fstF name (putF name x f) = some x := by
  unfold putF
  cases h : (f.any fun p => isName name p.1)
  · rw [if_neg (by decide)]; exact fst_ins name x f h
  · rw [if_pos rfl]; exact fst_set name x f h
theorem fst_set_other {name other : List UInt8} (hne : ¬ other = name) (x : DVal) : ∀ f, fstF other (setF name x f) = fstF other f
  | [] => rfl
  | p :: f => by
    rw [setF]
    by_cases hp : isName name p.1 = true
    · have e := isName_iff.1 hp
      rw [if_pos hp, fstF_cons, fstF_cons, show isName other p.1 = false by rw [e]; exact isName_no hne]
      rfl
    · rw [if_neg hp, fstF_cons, fstF_cons, fst_set_other hne x f]
theorem fst_ins_other {name other : List UInt8} (hne : ¬ other = name) (x : DVal) : ∀ f, fstF other (insF name x f) = fstF other f
  | [] => by rw [insF, fstF_cons, isName_no hne]; rfl
  | p :: f => by
    rw [insF]
    by_cases hp : isAbove name p.1 = true
    · rw [if_pos hp, fstF_cons, isName_no hne]; rfl
    · rw [if_neg hp, fstF_cons, fstF_cons, fst_ins_other hne x f]
theorem fst_put_other {name other : List UInt8} (hne : ¬ other = name) (x : DVal) (f : List (List UInt8 × DVal)) : fstF other (putF name x f) = fstF other f := by
  unfold putF
  split
  · exact fst_set_other hne x f
  · exact fst_ins_other hne x f
theorem dropF_cons (name : List UInt8) (p : List UInt8 × DVal) (f : List (List UInt8 × DVal)) : dropF name (p :: f) = if isName name p.1 then dropF name f else p :: dropF name f := by
  unfold dropF
  rw [List.filter_cons]
  cases isName name p.1 <;> rfl
theorem fst_drop (name : List UInt8) : ∀ f, fstF name (dropF name f) = none
  | [] => rfl
  | p :: f => by
    rw [dropF_cons]
    by_cases hp : isName name p.1 = true
    · rw [if_pos hp]; exact fst_drop name f
    · rw [if_neg hp, fstF_cons, if_neg hp]; exact fst_drop name f
theorem fst_drop_other {name other : List UInt8} (hne : ¬ other = name) : ∀ f, fstF other (dropF name f) = fstF other f
  | [] => rfl
  | p :: f => by
    rw [dropF_cons]
    by_cases hp : isName name p.1 = true
    · have e := isName_iff.1 hp
      rw [if_pos hp, fstF_cons, show isName other p.1 = false by rw [e]; exact isName_no hne]
      exact fst_drop_other hne f
    · rw [if_neg hp, fstF_cons, fstF_cons, fst_drop_other hne f]
theorem drop_set (name : List UInt8) (x : DVal) : ∀ f, dropF name (setF name x f) = dropF name f
  | [] => rfl
  | p :: f => by
    rw [setF]
    by_cases hp : isName name p.1 = true
    · rw [if_pos hp, dropF_cons, dropF_cons, if_pos hp, if_pos hp]
    · rw [if_neg hp, dropF_cons, dropF_cons, if_neg hp, if_neg hp, drop_set name x f]
theorem drop_ins (name : List UInt8) (x : DVal) : ∀ f, dropF name (insF name x f) = dropF name f
  | [] => by rw [insF, dropF_cons, if_pos (isName_self name)]
  | p :: f => by
    rw [insF]
    by_cases hp : isAbove name p.1 = true
    · rw [if_pos hp, dropF_cons, if_pos (isName_self name)]
    · rw [if_neg hp, dropF_cons, dropF_cons, drop_ins name x f]
theorem drop_put (name : List UInt8) (x : DVal) (f : List (List UInt8 × DVal)) : dropF name (putF name x f) = dropF name f := by
  unfold putF
  split
  · exact drop_set name x f
  · exact drop_ins name x f
/-! What is right stays right. -/
theorem why0_lf {d : Nat} {b : Bool} {n : Int} {s : List UInt8} {ll lf lf' : Nat} (h : why0 d 6 b n s ll lf = 0) (hf : lf' ≤ 64) : why0 d 6 b n s ll lf' = 0 := by
  have h0 := firstE_0 h
  have a1 := unlessE_0 (e := 5) (b := decide ((6 : Int) < 7) && bareB 6 b n s ll lf) (by decide) (h0 _ (by simp))
  have a2 := unlessE_0 (e := 4) (b := decide ((s.length : Int) ≤ 1024)) (by decide) (h0 _ (by simp))
  have a4 := unlessE_0 (e := 3) (b := decide (max (ll : Int) (lf : Int) ≤ 64)) (by decide) (h0 _ (by simp))
  have a5 := unlessE_0 (e := 10) (b := (!((6 : Int) == 5 || (6 : Int) == 6) || decide ((d : Int) < 6))) (by decide) (h0 _ (by simp))
  have b1 : bareB 6 b n s ll lf' = true := by
    simp only [Bool.and_eq_true] at a1
    have := of_decide_eq_true (show decide _ = true from a1.2)
    exact decide_eq_true ⟨this.1, this.2.1, this.2.2.1, this.2.2.2.1, this.2.2.2.2.1, rfl⟩
  have b4 : decide (max (ll : Int) (lf' : Int) ≤ 64) = true := by
    simp only [decide_eq_true_eq] at a4 ⊢
    omega
  unfold why0
  rw [b1, a2, b4, a5]
  rfl
theorem chkF_lower {d : Nat} {x last : List UInt8} {f : List (List UInt8 × DVal)} (h : checkF d x f = 0) (hg : gtB x last = true) : checkF d last f = 0 := by
  cases f with
  | nil => rfl
  | cons p f =>
    obtain ⟨y, v⟩ := p
    rw [checkF] at h ⊢
    obtain ⟨h1, h2⟩ := orE_0 h
    obtain ⟨h3, h4⟩ := orE_0 h1
    have h5 := unlessE_0 (by decide) h4
    rw [gtB_above] at h5 hg
    rw [h3, h2, gtB_above, isAbove_trans hg h5]
    rfl
theorem chkF_drop (name : List UInt8) : ∀ (f : List (List UInt8 × DVal)) (d : Nat) (last : List UInt8), checkF d last f = 0 → checkF d last (dropF name f) = 0
  | [], _, _, _ => rfl
  | (y, v) :: f, d, last, h => by
    rw [checkF] at h
    obtain ⟨h1, h2⟩ := orE_0 h
    obtain ⟨h3, h4⟩ := orE_0 h2
    have h5 := chkF_drop name f d y h4
    rw [dropF_cons]
    by_cases hp : isName name y = true
    · rw [if_pos hp]
      exact chkF_lower h5 (unlessE_0 (by decide) (orE_0 h1).2)
    · rw [if_neg hp, checkF, h1, h3, h5]; rfl
theorem chkF_set (name : List UInt8) (x : DVal) : ∀ (f : List (List UInt8 × DVal)) (d : Nat) (last : List UInt8), checkF d last f = 0 → checkV d x = 0 → checkF d last (setF name x f) = 0
  | [], _, _, _, _ => rfl
  | (y, v) :: f, d, last, h, hx => by
    rw [checkF] at h
    obtain ⟨h1, h2⟩ := orE_0 h
    obtain ⟨h3, h4⟩ := orE_0 h2
    rw [setF]
    by_cases hp : isName name y = true
    · rw [if_pos hp, checkF, h1, hx, h4]; rfl
    · rw [if_neg hp, checkF, h1, h3, chkF_set name x f d y h4 hx]; rfl
theorem chkF_ins (name : List UInt8) (x : DVal) (hn : nameE name = 0) : ∀ (f : List (List UInt8 × DVal)) (d : Nat) (last : List UInt8), checkF d last f = 0 → checkV d x = 0 → gtB name last = true → (f.any fun p => isName name p.1) = false → checkF d last (insF name x f) = 0
  | [], d, last, _, hx, hg, _ => by rw [insF, checkF, hn, hx, hg]; rfl
  | (y, v) :: f, d, last, h, hx, hg, ha => by
    rw [checkF] at h
    obtain ⟨h1, h2⟩ := orE_0 h
    obtain ⟨h3, h4⟩ := orE_0 h2
    rw [List.any_cons, Bool.or_eq_false_iff] at ha
    rw [insF]
    by_cases hp : isAbove name y = true
    · rw [if_pos hp, checkF, hn, hx, hg, checkF, (orE_0 h1).1, gtB_above, show isAbove name y = true from hp, h3, h4]; rfl
    · rw [if_neg hp, checkF, h1, h3, chkF_ins name x hn f d y h4 hx ?_ ha.2]
      · rfl
      · rw [gtB_above]
        rcases tri name y with e | e | e
        · rw [e, isName_self] at ha; exact absurd ha.1 (by decide)
        · exact absurd e hp
        · exact e
theorem chk_drop {b : Bool} {n : Int} {s : List UInt8} {l : List DVal} {f : List (List UInt8 × DVal)} (name : List UInt8) (h : checkV 0 (.mk 6 b n s l f) = 0) : checkV 0 (.mk 6 b n s l (dropF name f)) = 0 := by
  rw [checkV] at h ⊢
  obtain ⟨h1, h2⟩ := orE_0 h
  obtain ⟨h3, h4⟩ := orE_0 h2
  have h5 := (why0_ok h1).2.2.2.2.2.1
  have h6 : (dropF name f).length ≤ f.length := List.length_filter_le _ _
  show orE (why0 0 6 b n s l.length (dropF name f).length) (orE (checkL (0 + 1) l) (checkF (0 + 1) [] (dropF name f))) = 0
  rw [why0_lf h1 (by omega), h3, chkF_drop name f _ _ h4]
  rfl
theorem chk_one {name : List UInt8} {x : DVal} (h : checkV 0 (.mk 6 false 0 [] [] [(name, x)]) = 0) : nameE name = 0 ∧ gtB name [] = true ∧ checkV 1 x = 0 := by
  rw [checkV] at h
  obtain ⟨h1, h2⟩ := orE_0 h
  obtain ⟨_, h4⟩ := orE_0 h2
  rw [checkF] at h4
  obtain ⟨h5, h6⟩ := orE_0 h4
  obtain ⟨h7, h8⟩ := orE_0 h5
  exact ⟨h7, unlessE_0 (by decide) h8, (orE_0 h6).1⟩
theorem chk_put {b : Bool} {n : Int} {s : List UInt8} {l : List DVal} {f : List (List UInt8 × DVal)} {name : List UInt8} {x : DVal} (h : checkV 0 (.mk 6 b n s l f) = 0) (h1 : checkV 0 (.mk 6 false 0 [] [] [(name, x)]) = 0) (hl : (putF name x f).length ≤ 64) : checkV 0 (.mk 6 b n s l (putF name x f)) = 0 := by
  obtain ⟨g1, g2, g3⟩ := chk_one h1
  rw [checkV] at h ⊢
  obtain ⟨h1, h2⟩ := orE_0 h
  obtain ⟨h3, h4⟩ := orE_0 h2
  have h5 : checkF (0 + 1) [] (putF name x f) = 0 := by
    unfold putF
    cases ha : (f.any fun p => isName name p.1)
    · rw [if_neg (by decide)]; exact chkF_ins name x g1 f _ _ h4 g3 g2 ha
    · rw [if_pos rfl]; exact chkF_set name x f _ _ h4 g3
  show orE (why0 0 6 b n s l.length (putF name x f).length) (orE (checkL (0 + 1) l) (checkF (0 + 1) [] (putF name x f))) = 0
  rw [why0_lf h1 hl, h3, h5]
  rfl
/-! Fields that are put in either order. -/
def putS (name : List UInt8) (x : DVal) : List (List UInt8 × DVal) → List (List UInt8 × DVal)
  | [] => [(name, x)]
  | p :: f => if isName name p.1 then (p.1, x) :: f else if isAbove name p.1 then (name, x) :: p :: f else p :: putS name x f
theorem putS_eq {name : List UInt8} {x : DVal} {p : List UInt8 × DVal} {f : List (List UInt8 × DVal)} (h : name = p.1) : putS name x (p :: f) = (p.1, x) :: f := by rw [putS, if_pos (by rw [h]; exact isName_self _)]
theorem putS_lt {name : List UInt8} {x : DVal} {p : List UInt8 × DVal} {f : List (List UInt8 × DVal)} (h : isAbove name p.1 = true) : putS name x (p :: f) = (name, x) :: p :: f := by rw [putS, if_neg (by rw [(isAbove_no h).2.1]; decide), if_pos h]
theorem putS_gt {name : List UInt8} {x : DVal} {p : List UInt8 × DVal} {f : List (List UInt8 × DVal)} (h : isAbove p.1 name = true) : putS name x (p :: f) = p :: putS name x f := by rw [putS, if_neg (by rw [(isAbove_no h).2.2]; decide), if_neg (by rw [(isAbove_no h).1]; decide)]
theorem putS_comm {a b : List UInt8} (hab : ¬ a = b) (x y : DVal) : ∀ f, putS b y (putS a x f) = putS a x (putS b y f)
  | [] => by
    show putS b y [(a, x)] = putS a x [(b, y)]
    rcases tri a b with e | e | e
    · exact absurd e hab
    · rw [putS_gt (p := (a, x)) e, putS_lt (p := (b, y)) e]; rfl
    · rw [putS_lt (p := (a, x)) e, putS_gt (p := (b, y)) e]; rfl
  | p :: f => by
    rcases tri a p.1 with ea | ea | ea <;> rcases tri b p.1 with eb | eb | eb
    · exact absurd (ea.trans eb.symm) hab
    · rw [putS_eq ea, putS_lt eb, putS_lt (p := (p.1, x)) eb, putS_gt (p := (b, y)) (by rw [ea]; exact eb), putS_eq ea]
    · rw [putS_eq ea, putS_gt eb, putS_gt (p := (p.1, x)) eb, putS_eq ea]
    · rw [putS_lt ea, putS_eq eb, putS_lt (p := (p.1, y)) ea, putS_gt (p := (a, x)) (by rw [eb]; exact ea), putS_eq eb]
    · rw [putS_lt ea, putS_lt eb]
      rcases tri a b with e | e | e
      · exact absurd e hab
      · rw [putS_gt (p := (a, x)) e, putS_lt eb, putS_lt (p := (b, y)) e]
      · rw [putS_lt (p := (a, x)) e, putS_gt (p := (b, y)) e, putS_lt ea]
    · rw [putS_lt ea, putS_gt eb, putS_gt (p := (a, x)) (isAbove_trans ea eb), putS_gt eb, putS_lt ea]
    · rw [putS_gt ea, putS_eq eb, putS_eq eb, putS_gt (p := (p.1, y)) ea]
    · rw [putS_gt ea, putS_lt eb, putS_lt eb, putS_gt (p := (b, y)) (isAbove_trans eb ea), putS_gt ea]
    · rw [putS_gt ea, putS_gt eb, putS_gt eb, putS_gt ea, putS_comm hab x y f]
def Inc : List (List UInt8 × DVal) → Prop
  | [] => True
  | p :: f => (∀ q ∈ f, isAbove p.1 q.1 = true) ∧ Inc f
theorem chkF_inc : ∀ (f : List (List UInt8 × DVal)) (d : Nat) (last : List UInt8), checkF d last f = 0 → (∀ q ∈ f, isAbove last q.1 = true) ∧ Inc f
  | [], _, _, _ => ⟨(fun q hq => by cases hq), trivial⟩
  | (y, v) :: f, d, last, h => by
    rw [checkF] at h
    obtain ⟨h1, h2⟩ := orE_0 h
    have h3 := unlessE_0 (by decide) (orE_0 h1).2
    rw [gtB_above] at h3
    obtain ⟨i1, i2⟩ := chkF_inc f d y (orE_0 h2).2
    refine ⟨fun q hq => ?_, i1, i2⟩
    rcases List.mem_cons.1 hq with rfl | hq
    · exact h3
    · exact isAbove_trans h3 (i1 q hq)
theorem none_above {name : List UInt8} {f : List (List UInt8 × DVal)} (h : ∀ q ∈ f, isAbove name q.1 = true) : (f.any fun p => isName name p.1) = false := by
  rw [List.any_eq_false]
  intro q hq
  rw [(isAbove_no (h q hq)).2.1]
  decide
theorem putF_S (name : List UInt8) (x : DVal) : ∀ (f : List (List UInt8 × DVal)), Inc f → putF name x f = putS name x f
  | [], _ => rfl
  | (y, v) :: f, h => by
    obtain ⟨h1, h2⟩ := h
    have ih := putF_S name x f h2
    unfold putF at ih ⊢
    rw [List.any_cons]
    rcases tri name y with e | e | e
    · rw [putS_eq (p := (y, v)) e, show isName name (y, v).1 = true by rw [e]; exact isName_self _, Bool.true_or, if_pos rfl, setF, if_pos (by rw [e]; exact isName_self _)]
    · have hno := none_above (name := name) (f := f) (fun q hq => isAbove_trans e (h1 q hq))
      rw [putS_lt (p := (y, v)) e, show isName name (y, v).1 = false from (isAbove_no e).2.1, hno, Bool.or_false, if_neg (by decide), insF, if_pos e]
    · rw [putS_gt (p := (y, v)) e, show isName name (y, v).1 = false from (isAbove_no e).2.2, Bool.false_or]
      by_cases hany : (f.any fun p => isName name p.1) = true
      · rw [if_pos hany] at ih ⊢
        rw [setF, if_neg (by rw [show isName name (y, v).1 = false from (isAbove_no e).2.2]; decide), ih]
      · rw [if_neg hany] at ih ⊢
        rw [insF, if_neg (by rw [show isAbove name (y, v).1 = false from (isAbove_no e).1]; decide), ih]
theorem mem_putS {name : List UInt8} {x : DVal} : ∀ {f : List (List UInt8 × DVal)} {q : List UInt8 × DVal}, q ∈ putS name x f → q.1 = name ∨ ∃ r ∈ f, r.1 = q.1
  | [], q, h => by
    rw [putS] at h
    rw [List.mem_singleton.1 h]
    exact .inl rfl
  | p :: f, q, h => by
    rcases tri name p.1 with e | e | e
    · rw [putS_eq e] at h
      rcases List.mem_cons.1 h with rfl | h
      · exact .inl e.symm
      · exact .inr ⟨q, List.mem_cons_of_mem _ h, rfl⟩
    · rw [putS_lt e] at h
      rcases List.mem_cons.1 h with rfl | h
      · exact .inl rfl
      · exact .inr ⟨q, h, rfl⟩
    · rw [putS_gt e] at h
      rcases List.mem_cons.1 h with rfl | h
      · exact .inr ⟨q, List.mem_cons_self .., rfl⟩
      · rcases mem_putS h with h | ⟨r, hr, h⟩
        · exact .inl h
        · exact .inr ⟨r, List.mem_cons_of_mem _ hr, h⟩
theorem putS_inc (name : List UInt8) (x : DVal) : ∀ (f : List (List UInt8 × DVal)), Inc f → Inc (putS name x f)
  | [], _ => ⟨(fun q hq => by cases hq), trivial⟩
  | p :: f, ⟨h1, h2⟩ => by
    rcases tri name p.1 with e | e | e
    · rw [putS_eq e]; exact ⟨h1, h2⟩
    · rw [putS_lt e]
      refine ⟨fun q hq => ?_, h1, h2⟩
      rcases List.mem_cons.1 hq with rfl | hq
      · exact e
      · exact isAbove_trans e (h1 q hq)
    · rw [putS_gt e]
      refine ⟨fun q hq => ?_, putS_inc name x f h2⟩
      rcases mem_putS hq with h | ⟨r, hr, h⟩
      · rw [h]; exact e
      · rw [← h]; exact h1 r hr
/-- What is right in a struct's fields. -/
theorem chkF_of {b : Bool} {n : Int} {s : List UInt8} {l : List DVal} {f : List (List UInt8 × DVal)} (h : checkV 0 (.mk 6 b n s l f) = 0) : checkF 1 [] f = 0 := by
  rw [checkV] at h
  exact (orE_0 (orE_0 h).2).2
theorem put_comm {a b : List UInt8} (hab : ¬ a = b) (x y : DVal) {c : Bool} {n : Int} {s : List UInt8} {l : List DVal} {f : List (List UInt8 × DVal)} (h : checkV 0 (.mk 6 c n s l f) = 0) : putF b y (putF a x f) = putF a x (putF b y f) := by
  have hi := (chkF_inc f 1 [] (chkF_of h)).2
  rw [putF_S a x f hi, putF_S b y f hi, putF_S b y _ (putS_inc a x f hi), putF_S a x _ (putS_inc b y f hi), putS_comm hab]
/-- What is put is got, what is dropped is not, all else stays. -/
theorem get_name (k : Nat) (b : Bool) (n : Int) (s : List UInt8) (l : List DVal) (f : List (List UInt8 × DVal)) (name : List UInt8) (hk : k = 6) : getV (.mk k b n s l f) [name] = fstF name f := by
  rw [getV_cons, stepV, if_pos hk]
  cases fstF name f <;> rfl
end Go.Proofs.YthcojmpigdojoaaDoor

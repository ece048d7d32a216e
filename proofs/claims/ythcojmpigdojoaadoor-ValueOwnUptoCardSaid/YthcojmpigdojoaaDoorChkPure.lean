/- Why a value is not right, as a plain function. No conditions. -/
import Derived.Test.YthcojmpigdojoaaDoorChkBare
set_option linter.unusedVariables false
set_option linter.unusedSimpArgs false
namespace Go.Proofs.YthcojmpigdojoaaDoor
open Go Go.RowKit

/-- The first of two errors. -/
def orE (a b : Int) : Int := if a = 0 then b else a
theorem orE_z (b : Int) : orE 0 b = b := rfl
theorem orE_n {a : Int} (b : Int) (h : a ≠ 0) : orE a b = a := by rw [orE, if_neg h]
theorem orE_r (a : Int) : orE a 0 = a := by unfold orE; split <;> simp_all
theorem orE_assoc (a b c : Int) : orE (orE a b) c = orE a (orE b c) := by unfold orE; split <;> simp_all
theorem firstE_two (a b : Int) : firstE [a, b] = orE a b := by simp only [firstE, orE]; split <;> simp_all
/-- Whether a text is above another one, as the program asks. -/
def gtB (x y : List UInt8) : Bool := !(Op.bytesLess x y || x == y)
def bareB (k : Int) (b : Bool) (n : Int) (s : List UInt8) (ll lf : Nat) : Bool :=
  flatB k b n s ll lf k (sel (k == 1) b false) (sel (k == 2) n 0) (sel (k == 3 || k == 4) s []) (sel (k == 5) ll 0) (sel (k == 6) lf 0)
/-- What is wrong with a value itself. -/
def why0 (d : Nat) (k : Int) (b : Bool) (n : Int) (s : List UInt8) (ll lf : Nat) : Int :=
  firstE [unlessE (decide (k < 7) && bareB k b n s ll lf) 5, unlessE (decide ((s.length : Int) ≤ 1024)) 4, unlessE (!(k == 3) || Lib.validD s) 9, unlessE (decide (max (ll : Int) (lf : Int) ≤ 64)) 3, unlessE (!(k == 5 || k == 6) || decide ((d : Int) < 6)) 10]
mutual
def checkV (d : Nat) : DVal → Int
  | .mk k b n s l f => orE (why0 d k b n s l.length f.length) (orE (checkL (d + 1) l) (checkF (d + 1) [] f))
def checkL (d : Nat) : List DVal → Int
  | [] => 0
  | v :: l => orE (checkV d v) (checkL d l)
def checkF (d : Nat) (last : List UInt8) : List (List UInt8 × DVal) → Int
  | [] => 0
  | (x, v) :: f => orE (orE (nameE x) (unlessE (gtB x last) 18)) (orE (checkV d v) (checkF d x f))
end
theorem checkL_drop {d : Nat} {l : List DVal} {i : Nat} (h : i < l.length) : checkL d (l.drop i) = orE (checkV d l[i]) (checkL d (l.drop (i + 1))) := by
  rw [List.drop_eq_getElem_cons h, checkL]
theorem checkF_drop {d : Nat} {last : List UInt8} {f : List (List UInt8 × DVal)} {i : Nat} (h : i < f.length) :
    checkF d last (f.drop i) = orE (orE (nameE f[i].1) (unlessE (gtB f[i].1 last) 18)) (orE (checkV d f[i].2) (checkF d f[i].1 (f.drop (i + 1)))) := by
  rw [List.drop_eq_getElem_cons h]
  generalize f[i] = p
  obtain ⟨x, v⟩ := p
  rw [checkF]
theorem unlessE_f {e : Int} (he : e ≠ 0) {b : Bool} (h : b = false) : unlessE b e ≠ 0 := by rw [h]; exact he
theorem unlessE_0 {e : Int} (he : e ≠ 0) {b : Bool} (h : unlessE b e = 0) : b = true := by
  cases b with
  | true => rfl
  | false => exact absurd h he
theorem firstE_0 {l : List Int} (h : firstE l = 0) : ∀ e ∈ l, e = 0 := by
  induction l with
  | nil => intro e he; cases he
  | cons a l ih =>
    rw [firstE] at h
    by_cases ha : a = 0
    · rw [if_pos ha] at h
      intro e he
      rcases List.mem_cons.1 he with rfl | he
      · exact ha
      · exact ih h e he
    · rw [if_neg ha] at h; exact absurd h ha
/-- What a value that is right itself is like. -/
theorem why0_ok {d : Nat} {k : Int} {b : Bool} {n : Int} {s : List UInt8} {ll lf : Nat} (h : why0 d k b n s ll lf = 0) :
    k < 7 ∧ bareB k b n s ll lf = true ∧ s.length ≤ 1024 ∧ (k = 3 → Lib.validD s = true) ∧ ll ≤ 64 ∧ lf ≤ 64 ∧ (k = 5 ∨ k = 6 → d < 6) := by
  have h0 := firstE_0 h
  have a1 := unlessE_0 (e := 5) (b := decide (k < 7) && bareB k b n s ll lf) (by decide) (h0 _ (by simp))
  have a2 := unlessE_0 (e := 4) (b := decide ((s.length : Int) ≤ 1024)) (by decide) (h0 _ (by simp))
  have a3 := unlessE_0 (e := 9) (b := (!(k == 3) || Lib.validD s)) (by decide) (h0 _ (by simp))
  have a4 := unlessE_0 (e := 3) (b := decide (max (ll : Int) (lf : Int) ≤ 64)) (by decide) (h0 _ (by simp))
  have a5 := unlessE_0 (e := 10) (b := (!(k == 5 || k == 6) || decide ((d : Int) < 6))) (by decide) (h0 _ (by simp))
  simp only [Bool.and_eq_true, decide_eq_true_eq] at a1 a2 a4
  refine ⟨a1.1, a1.2, by omega, fun h3 => ?_, by omega, by omega, fun h5 => ?_⟩
  · subst h3; simpa using a3
  · have : (d : Int) < 6 := by rcases h5 with rfl | rfl <;> simpa using a5
    omega
theorem bareB_ll {k : Int} {b : Bool} {n : Int} {s : List UInt8} {ll lf : Nat} (h : bareB k b n s ll lf = true) : (k ≠ 5 → ll = 0) ∧ (k ≠ 6 → lf = 0) := by
  unfold bareB flatB at h
  have := of_decide_eq_true h
  refine ⟨fun hk => ?_, fun hk => ?_⟩
  · have h5 := this.2.2.2.2.1
    rwa [sel_f (by simpa using hk)] at h5
  · have h6 := this.2.2.2.2.2
    rwa [sel_f (by simpa using hk)] at h6
/-- A value that has parts and is right itself is no deeper than the sixth. -/
theorem why0_depth {d : Nat} {k : Int} {b : Bool} {n : Int} {s : List UInt8} {ll lf : Nat} (h : why0 d k b n s ll lf = 0) (hp : 0 < ll ∨ 0 < lf) : d < 6 := by
  obtain ⟨h1, h2, _, _, _, _, h3⟩ := why0_ok h
  obtain ⟨b1, b2⟩ := bareB_ll h2
  apply h3
  by_cases h5 : k = 5
  · exact Or.inl h5
  · by_cases h6 : k = 6
    · exact Or.inr h6
    · have := b1 h5; have := b2 h6; omega
end Go.Proofs.YthcojmpigdojoaaDoor

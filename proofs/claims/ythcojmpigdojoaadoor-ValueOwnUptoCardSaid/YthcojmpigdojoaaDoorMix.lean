/- Regions that draw their order: whatever order is drawn, one walk serves. Conditions: a Bool over the operations, checked by the kernel. -/
import Derived.Deep.Quiet
import Derived.Below
import Derived.WalkKit
set_option linter.unusedVariables false
set_option linter.unusedSimpArgs false
namespace Go.Proofs.YthcojmpigdojoaaDoor
open Go Go.RowKit

section
variable {P : Program} {ops : Array Oper} {T : List Nat} {C : World → Prop} {Q : Exit → Act → World → Prop}

/-- What follows, with no way out by a panic. -/
def Calm (Q : Exit → Act → World → Prop) : Exit → Act → World → Prop
  | .panic _, _, _ => False
  | .normal, a, w => Q .normal a w
  | .exit i, a, w => Q (.exit i) a w
  | .goto i, a, w => Q (.goto i) a w
  | .ret, a, w => Q .ret a w
  | .outgrown, a, w => Q .outgrown a w
theorem Calm.normal {a : Act} {w : World} (h : Q .normal a w) : Calm Q .normal a w := h
theorem Calm.imp : ∀ (e : Exit) (a : Act) (w : World), Calm Q e a w → Q e a w := fun e a w h => by
  cases e <;> first | exact h | exact (h : False).elim

/-- An operation that yields a value and turns nothing. -/
def plainOp : Op → Bool
  | .move _ | .assign _ | .pick .. | .load .. | .nilCheck _ | .binOp .. | .unOp .. | .convert .. | .slice .. | .fieldAddr .. | .field .. | .indexAddr .. | .index .. | .extract .. | .makeInterface .. | .makeFunc .. | .lookup .. => true
  | .call { callee := .builtin .len, .. } | .call { callee := .builtin .cap, .. } | .call { callee := .builtin .min, .. } | .call { callee := .builtin .max, .. } => true
  | _ => false

def AllV (P : Program) (s : Sem Next) : Prop := ∀ w w' n, s.run P w = .ok n w' → ∃ v, n = .value v
theorem allV_pure (v : Value) : AllV P (pure (.value v)) := fun w w' n h => by
  have h' : Result.ok (Next.value v) w = .ok n w' := h
  injection h' with h1 _
  exact ⟨v, h1.symm⟩
theorem allV_bind {α : Type} (x : Sem α) (f : α → Sem Next) (h : ∀ a, AllV P (f a)) : AllV P (x >>= f) := fun w w' n hr => by
  rw [Sem.run_bind] at hr
  cases hx : x.run P w with
  | ok a w1 => rw [hx] at hr; exact h a w1 w' n hr
  | halt e w1 => rw [hx] at hr; cases hr
theorem allV_halt (e : Halt) : AllV P (Sem.halt e) := fun w w' n h => by cases h
theorem allV_v (s : Sem Value) : AllV P (do pure (Next.value (← s))) := allV_bind s _ fun a => allV_pure a

theorem plain_value {o : Oper} (hp : plainOp o.op = true) (ρ : Operand → Value) : AllV P (execOp ρ o) := by
  obtain ⟨dst, op, type, pos, after, guard⟩ := o
  cases op <;> simp only [plainOp, Bool.false_eq_true] at hp <;> simp only [execOp]
  case move x => exact allV_pure _
  case assign x => exact allV_pure _
  case pick c a b => exact allV_bind _ _ fun x => by cases x <;> exact allV_pure _
  case nilCheck x =>
    split
    · exact fun w w' n h => by cases h
    · exact fun w w' n h => by cases h
    · exact fun w w' n h => by cases h
    · split
      · exact fun w w' n h => by cases h
      · refine allV_bind _ _ fun p => allV_bind _ _ fun q => ?_
        split
        · exact allV_bind _ _ fun _ => allV_pure _
        · exact allV_pure _
      · exact allV_pure _
    · exact allV_pure _
  case call c =>
    obtain ⟨callee, args, argTypes⟩ := c
    cases callee with
    | builtin b =>
      cases b <;> simp only [Bool.false_eq_true] at hp <;> exact allV_v (P := P) _
    | value f => simp at hp
    | invoke r m => simp at hp
  all_goals exact allV_v _

/-- A floating operation: in every world of the class it yields v and turns nothing. -/
def Flt (P : Program) (ops : Array Oper) (C : World → Prop) (o : Oper) (v : Value) (a : Act) : Prop :=
  (Region.wanted o (yielded ops a.tmps) = true ∧ ∀ w, C w → (execOp a.eval o).run P w = .ok (.value v) w) ∨ (Region.wanted o (yielded ops a.tmps) = false ∧ v = undef)

theorem Flt.of_same {o : Oper} {v : Value} {a a' : Act} (hy : Flt P ops C o v a) (he : execOp a'.eval o = execOp a.eval o)
    (hw : Region.wanted o (yielded ops a'.tmps) = Region.wanted o (yielded ops a.tmps)) : Flt P ops C o v a' := by
  unfold Flt at *
  rw [he, hw]
  exact hy

theorem flt_of_quiet {i : Nat} {o : Oper} {a : Act} {K : Act → Prop} (hi : ops[i]? = some o) (hp : plainOp o.op = true) (h : wpQuiet P ops C K [o] a) : ∃ v, Flt P ops C o v a ∧ K (a.put o.dst v) := by
  simp only [wpQuiet] at h
  by_cases hw : Region.wanted o (yielded ops a.tmps) = true
  · rw [if_pos hw] at h
    obtain ⟨v, h1, h2⟩ := h
    refine ⟨v, .inl ⟨hw, fun w hc => ?_⟩, h2⟩
    have h3 := h1 w hc
    unfold Oper.quietAt at h3
    cases hr : (execOp a.eval o).run P w with
    | halt e w1 => rw [hr] at h3; exact h3.elim
    | ok n w1 =>
      obtain ⟨u, rfl⟩ := plain_value hp a.eval w w1 n hr
      rw [hr] at h3
      obtain ⟨rfl, rfl⟩ := h3
      rfl
  · rw [if_neg hw] at h
    exact ⟨undef, .inr ⟨by simpa using hw, rfl⟩, h⟩

theorem Flt.wpOp {i : Nat} {o : Oper} {v : Value} {a : Act} (hi : ops[i]? = some o) (hy : Flt P ops C o v a) {K : Act → World → Prop} {w : World} (hw : C w) (h : K (a.put o.dst v) w) : wpOp P ops Q i K a w := by
  unfold Go.wpOp
  simp only [hi]
  rcases hy with ⟨hg, hv⟩ | ⟨hg, rfl⟩
  · rw [if_pos hg]
    refine .inl ?_
    unfold Oper.wp
    rw [hv w hw]
    exact h
  · rw [if_neg (by rw [hg]; exact Bool.false_ne_true)]
    exact h

/-- One operation apart from a floating one: the floating one's value may already lie in its slot. -/
theorem wpOp_flt {j : Nat} {oi oj : Oper} {v : Value} (hj : ops[j]? = some oj) (hap : oi.apart ops oj = true)
    (hsi : ∀ cs b, oi.op ≠ .select cs b) (hsj : ∀ cs b, oj.op ≠ .select cs b) {K : Act → World → Prop} {a : Act} {w : World}
    (hy : Flt P ops C oi v a) (h : wpOp P ops (Calm Q) j K (a.put oi.dst v) w) :
    wpOp P ops (Calm Q) j (fun a' w' => Flt P ops C oi v a' ∧ K (a'.put oi.dst v) w') a w := by
  obtain ⟨h1, h2, h3⟩ := Oper.apart_spec hap
  have keep : ∀ (a : Act), Flt P ops C oi v a → ∀ u, Flt P ops C oi v (a.put oj.dst u) := fun a hy u =>
    hy.of_same (execOp_put oi hsi a oj.dst u h3) (wanted_put oi a oj.dst u h3)
  have keepD : ∀ d, Flt P ops C oi v { a with defers := d :: a.defers } := fun d => hy.of_same rfl rfl
  unfold wpOp at *
  simp only [hj] at *
  rw [wanted_put oj a oi.dst v h1] at h
  by_cases hw : Region.wanted oj (yielded ops a.tmps) = true
  · rw [if_pos hw] at h ⊢
    rcases h with h | ⟨hasks, hlets⟩
    case inr => exact .inr ⟨by unfold Oper.asks at *; rw [execOp_put oj hsj a oi.dst v h1] at hasks; exact hasks, hlets⟩
    refine .inl ?_
    unfold Oper.wp at *
    rw [execOp_put oj hsj a oi.dst v h1] at h
    generalize (execOp a.eval oj).run P w = r at h ⊢
    cases r with
    | ok n w' =>
      cases n <;> simp only [Oper.upon] at h ⊢
      case value u => exact ⟨keep a hy u, by rw [← Act.put_comm a v u h2]; exact h⟩
      case skip => exact ⟨keep a hy _, by rw [← Act.put_comm a v undef h2]; exact h⟩
      case defer d =>
        refine ⟨keep _ (keepD d) _, ?_⟩
        rw [← Act.put_comm _ v undef h2, ← Act.put_defers]
        exact h
      case enter f args =>
        refine Calls.mono h fun e w'' he => ?_
        cases e with
        | returned u => exact ⟨keep a hy u, by rw [← Act.put_comm a v u h2]; exact he⟩
        | panicked c => exact he
        | outgrown => exact he
      case row row args => exact Rows.mono h fun u w'' he => ⟨keep a hy u, by rw [← Act.put_comm a v u h2]; exact he⟩
    | halt x w' =>
      cases x <;> simp only [Oper.upon] at h ⊢
      case panic u => exact h
  · rw [if_neg hw] at h ⊢
    exact ⟨keep a hy _, by rw [← Act.put_comm a v undef h2]; exact h⟩

/-- Whatever order is drawn from here on; each operation that is none of T leaves a world of the class. -/
def anyK (P : Program) (ops : Array Oper) (T : List Nat) (C : World → Prop) (Q : Exit → Act → World → Prop) : Nat → Array Bool → Act → World → Prop
  | 0, listed, a, w => Region.ready .any ops listed = [] ∧ Q .normal a w
  | fuel + 1, listed, a, w =>
    (Region.ready .any ops listed = [] → Q .normal a w) ∧
    ∀ i ∈ Region.ready .any ops listed, wpOp P ops (Calm Q) i (fun a' w' => (i ∈ T ∨ C w') ∧ anyK P ops T C Q fuel (listed.setIfInBounds i true) a' w') a w

theorem wpOp_calm {i : Nat} {K : Act → World → Prop} {a : Act} {w : World} (h : wpOp P ops (Calm Q) i K a w) : wpOp P ops Q i K a w := by
  unfold wpOp at *
  split
  · rename_i ho; simp only [ho] at h; exact h
  · rename_i o ho
    simp only [ho] at h
    by_cases hw : Region.wanted o (yielded ops a.tmps) = true
    · rw [if_pos hw] at h ⊢
      rcases h with h | ⟨h1, a', w', h2⟩
      · refine .inl ?_
        unfold Oper.wp at *
        generalize (execOp a.eval o).run P w = r at h ⊢
        cases r with
        | ok n w' =>
          cases n <;> simp only [Oper.upon] at h ⊢
          case enter f args =>
            refine Calls.mono h fun e w'' he => ?_
            cases e with
            | returned u => exact he
            | panicked c => exact he.elim
            | outgrown => obtain ⟨a', w', h2⟩ := he; exact ⟨a', w', h2⟩
          all_goals exact h
        | halt x w' =>
          cases x <;> simp only [Oper.upon] at h ⊢
          case panic u => exact h.elim
      · exact .inr ⟨h1, a', w', h2⟩
    · rw [if_neg hw] at h ⊢
      exact h

theorem wpAny_of_anyK : ∀ (fuel : Nat) (listed : Array Bool) (a : Act) (w : World), anyK P ops T C Q fuel listed a w → wpAny P .any ops Q fuel listed a w
  | 0, _, _, _, h => h
  | fuel + 1, _, _, _, h => ⟨h.1, fun i hi => wpOp_mono (fun a' w' hk => wpAny_of_anyK fuel _ a' w' hk.2) (wpOp_calm (h.2 i hi))⟩

theorem anyK_class {C' : World → Prop} (hc : ∀ x, C' x → C x) : ∀ (fuel : Nat) (listed : Array Bool) (a : Act) (w : World), anyK P ops T C' Q fuel listed a w → anyK P ops T C Q fuel listed a w
  | 0, _, _, _, h => h
  | fuel + 1, _, _, _, h => ⟨h.1, fun i hi => wpOp_mono (fun a' w' hk => ⟨hk.1.imp id (hc _), anyK_class hc fuel _ a' w' hk.2⟩) (h.2 i hi)⟩

/-- j comes up behind i: by an edge, or by edges. -/
inductive Waits (ops : Array Oper) : Nat → Nat → Prop
  | one {j i : Nat} {oj : Oper} (hj : ops[j]? = some oj) {e : Edge} (he : e ∈ oj.after) (hb : Region.binds .any e = true) (ho : e.on = i) : Waits ops j i
  | more {j k i : Nat} {oj : Oper} (hj : ops[j]? = some oj) {e : Edge} (he : e ∈ oj.after) (hb : Region.binds .any e = true) (ho : e.on = k) (h : Waits ops k i) : Waits ops j i
def Closed (ops : Array Oper) (listed : Array Bool) : Prop := ∀ k ok, ops[k]? = some ok → listed.getD k false = true → ∀ e ∈ ok.after, Region.binds .any e = true → listed.getD e.on false = true
theorem Closed.waits {listed : Array Bool} (hc : Closed ops listed) {j i : Nat} (h : Waits ops j i) : listed.getD j false = true → listed.getD i false = true := by
  induction h with
  | one hj he hb ho => intro hl; rw [← ho]; exact hc _ _ hj hl _ he hb
  | more hj he hb ho _ ih => intro hl; exact ih (by rw [← ho]; exact hc _ _ hj hl _ he hb)
theorem Closed.ready {listed : Array Bool} (hc : Closed ops listed) {j i : Nat} (hr : j ∈ Region.ready .any ops listed) (h : Waits ops j i) : listed.getD i false = true := by
  obtain ⟨_, oj, hoj, hall⟩ := mem_ready.1 hr
  cases h with
  | one hj he hb ho => obtain rfl : oj = _ := Option.some.inj (hoj.symm.trans hj); rw [← ho]; exact hall _ he hb
  | more hj he hb ho hw => obtain rfl : oj = _ := Option.some.inj (hoj.symm.trans hj); exact hc.waits hw (by rw [← ho]; exact hall _ he hb)
theorem Closed.set {listed : Array Bool} (hc : Closed ops listed) {j : Nat} (hr : j ∈ Region.ready .any ops listed) : Closed ops (listed.setIfInBounds j true) := by
  intro k ok hk hl e he hb
  obtain ⟨_, oj, hoj, hall⟩ := mem_ready.1 hr
  by_cases hjk : j = k
  · subst hjk
    obtain rfl : oj = ok := Option.some.inj (hoj.symm.trans hk)
    exact getD_set_true (hall e he hb)
  · rw [getD_set_ne false hjk] at hl
    exact getD_set_true (hc k ok hk hl e he hb)

theorem anyK_first {i : Nat} {oi : Oper} {v : Value} (hi : ops[i]? = some oi) (hsel : ∀ (j : Nat) (o : Oper) cs b, ops[j]? = some o → o.op ≠ .select cs b)
    (hT : ∀ j ∈ T, Waits ops j i) :
    ∀ (fuel : Nat) (listed : Array Bool) (a : Act) (w : World), C w → Closed ops listed →
      (∀ j oj, ops[j]? = some oj → j ≠ i → listed.getD j true = false → (∀ e ∈ oj.after, Region.binds .any e = true → e.on ≠ i) → oi.apart ops oj = true) →
      i ∈ Region.ready .any ops listed → Flt P ops C oi v a →
      anyK P ops T C Q fuel (listed.setIfInBounds i true) (a.put oi.dst v) w → anyK P ops T C Q (fuel + 1) listed a w := by
  intro fuel
  induction fuel with
  | zero =>
    intro listed a w hw hcl _ hr hy H
    refine ⟨fun h => (by rw [h] at hr; cases hr), fun j hj => ?_⟩
    by_cases hji : j = i
    · subst hji; exact hy.wpOp hi hw ⟨.inr hw, H⟩
    · have := ready_mono hj hji
      rw [H.1] at this
      cases this
  | succ fuel ih =>
    intro listed a w hw hcl hfree hr hy H
    refine ⟨fun h => (by rw [h] at hr; cases hr), fun j hj => ?_⟩
    by_cases hji : j = i
    · subst hji; exact hy.wpOp hi hw ⟨.inr hw, H⟩
    · have h1 := H.2 j (ready_mono hj hji)
      obtain ⟨hjun, oj, hoj, hall⟩ := mem_ready.1 hj
      have hun : listed.getD i false = false := by
        have h0 := (mem_ready.1 hr).1
        rcases Nat.lt_or_ge i listed.size with h' | h'
        · simp [h'] at h0 ⊢; exact h0
        · simp [Array.getElem?_eq_none h'] at h0
      have hnot : ∀ e ∈ oj.after, Region.binds .any e = true → e.on ≠ i := fun e he hb heq => by
        have h2 := hall e he hb
        rw [heq, hun] at h2
        cases h2
      have hjT : j ∉ T := fun hm => by
        have := hcl.ready hj (hT j hm)
        rw [hun] at this
        cases this
      have h2 := wpOp_flt hoj (hfree j oj hoj hji hjun hnot) (fun cs b => hsel i oi cs b hi) (fun cs b => hsel j oj cs b hoj) hy h1
      have hfree' : ∀ k ok, ops[k]? = some ok → k ≠ i → (listed.setIfInBounds j true).getD k true = false →
          (∀ e ∈ ok.after, Region.binds .any e = true → e.on ≠ i) → oi.apart ops ok = true := fun k ok hk hki hun hno => by
        refine hfree k ok hk hki ?_ hno
        by_cases hjk : j = k
        · subst hjk; exact hjun
        · rw [getD_set_ne true hjk] at hun; exact hun
      refine wpOp_mono (fun a' w' h3 => ?_) h2
      obtain ⟨h4, h5, h6⟩ := h3
      have hw' : C w' := h5.resolve_left hjT
      refine ⟨.inr hw', ih (listed.setIfInBounds j true) a' w' hw' (hcl.set hj) hfree' (ready_mono hr (Ne.symm hji)) h4 ?_⟩
      rw [Array.setIfInBounds_comm _ _ hji]
      exact h6

/-- From this frame, in every world of the class, whatever order is drawn. -/
def mixAt (P : Program) (ops : Array Oper) (T : List Nat) (C : World → Prop) (Q : Exit → Act → World → Prop) (fuel : Nat) (listed : Array Bool) (a : Act) : Prop := ∀ w, C w → anyK P ops T C Q fuel listed a w

def waitsB (ops : Array Oper) : Nat → Nat → Nat → Bool
  | 0, _, _ => false
  | n + 1, j, i => match ops[j]? with
    | some oj => oj.after.any fun e => Region.binds .any e && (e.on == i || waitsB ops n e.on i)
    | none => false
theorem waitsB_spec : ∀ (n j i : Nat), waitsB ops n j i = true → Waits ops j i
  | 0, _, _, h => by cases h
  | n + 1, j, i, h => by
    unfold waitsB at h
    split at h
    · rename_i oj hj
      obtain ⟨e, he, hb⟩ := Array.any_eq_true'.1 h
      simp only [Bool.and_eq_true, Bool.or_eq_true, beq_iff_eq] at hb
      rcases hb.2 with ho | hw
      · exact .one hj he hb.1 ho
      · exact .more hj he hb.1 rfl (waitsB_spec n _ _ hw)
    · cases h
/-- j waits directly for i. -/
def edgeB (ops : Array Oper) (j i : Nat) : Bool := match ops[j]? with
  | some oj => oj.after.any fun e => Region.binds .any e && e.on == i
  | none => false
def reachL (ops : Array Oper) : Nat → List Nat → List Nat
  | 0, _ => []
  | n + 1, fr => ((List.range ops.size).filter fun i => fr.any fun j => edgeB ops j i) ++ reachL ops n ((List.range ops.size).filter fun i => fr.any fun j => edgeB ops j i)
theorem edgeB_spec {j i : Nat} (h : edgeB ops j i = true) : ∃ oj, ops[j]? = some oj ∧ ∃ e ∈ oj.after, Region.binds .any e = true ∧ e.on = i := by
  unfold edgeB at h
  split at h
  · rename_i oj hj
    obtain ⟨e, he, hb⟩ := Array.any_eq_true'.1 h
    simp only [Bool.and_eq_true, beq_iff_eq] at hb
    exact ⟨oj, hj, e, he, hb.1, hb.2⟩
  · cases h
theorem reachL_spec : ∀ (n : Nat) (fr : List Nat) (k : Nat), k ∈ reachL ops n fr → ∃ j ∈ fr, Waits ops j k
  | 0, _, _, h => by cases h
  | n + 1, fr, k, h => by
    rw [reachL, List.mem_append] at h
    rcases h with h | h
    · rw [List.mem_filter, List.any_eq_true] at h
      obtain ⟨_, j, hj, he⟩ := h
      obtain ⟨oj, hoj, e, hee, hb, ho⟩ := edgeB_spec he
      exact ⟨j, hj, .one hoj hee hb ho⟩
    · obtain ⟨m, hm, hw⟩ := reachL_spec n _ k h
      rw [List.mem_filter, List.any_eq_true] at hm
      obtain ⟨_, j, hj, he⟩ := hm
      obtain ⟨oj, hoj, e, hee, hb, ho⟩ := edgeB_spec he
      exact ⟨j, hj, .more hoj hee hb ho hw⟩
def tailsB (ops : Array Oper) (T : List Nat) (i : Nat) : Bool := T.all fun j => waitsB ops 3 j i || (reachL ops 12 [j]).contains i
def closedB (ops : Array Oper) (listed : Array Bool) : Bool := (List.range ops.size).all fun k => !listed.getD k false || match ops[k]? with
  | some ok => ok.after.all fun e => !Region.binds .any e || listed.getD e.on false
  | none => true
theorem closedB_spec {listed : Array Bool} (h : closedB ops listed = true) : Closed ops listed := by
  intro k ok hk hl e he hb
  have h1 := List.all_eq_true.1 h k (List.mem_range.2 (Array.getElem?_eq_some_iff.1 hk).1)
  simp only [hl, hk, Bool.not_true, Bool.false_or] at h1
  have h2 := Array.all_eq_true_iff_forall_mem.1 h1 e he
  simpa [hb] using h2
/-- The floating operations l, in this order: each may come up, each is apart from whatever doesn't wait for it, each of T waits for it. -/
def fltB (ops : Array Oper) (T : List Nat) : List Nat → Array Bool → Bool
  | [], _ => true
  | i :: l, listed => (Region.ready .any ops listed).contains i && Region.free .any ops listed i && tailsB ops T i && ((ops[i]?).map fun o => plainOp o.op).getD false && fltB ops T l (listed.setIfInBounds i true)
def listAll : List Nat → Array Bool → Array Bool
  | [], listed => listed
  | i :: l, listed => listAll l (listed.setIfInBounds i true)
def opsAt (ops : Array Oper) (l : List Nat) : List Oper := l.map fun i => ops.toList.getD i default
theorem opsAt_cons {i : Nat} {l : List Nat} {o : Oper} (ho : ops[i]? = some o) : opsAt ops (i :: l) = o :: opsAt ops l := by
  have h : ops.toList.getD i default = o := by
    rw [List.getD_eq_getElem?_getD, Array.getElem?_toList, ho]
    rfl
  unfold opsAt
  rw [List.map_cons, h]

theorem tailsB_spec {i : Nat} (h : tailsB ops T i = true) : ∀ j ∈ T, Waits ops j i := fun j hj => by
  have h1 := List.all_eq_true.1 h j hj
  rw [Bool.or_eq_true] at h1
  rcases h1 with h1 | h1
  · exact waitsB_spec _ _ _ h1
  · obtain ⟨m, hm, hw⟩ := reachL_spec 12 [j] i (by simpa using h1)
    rw [List.mem_singleton] at hm
    rw [← hm]
    exact hw

theorem wpQuiet_split {K : Act → Prop} {o : Oper} {l : List Oper} {a : Act} (h : wpQuiet P ops C K (o :: l) a) : wpQuiet P ops C (wpQuiet P ops C K l) [o] a := h

theorem mix_flt0 (hs : Region.noSelect ops = true) : ∀ (l : List Nat) (fuel : Nat) (listed : Array Bool) (a : Act), Closed ops listed → fltB ops T l listed = true →
    wpQuiet P ops C (mixAt P ops T C Q fuel (listAll l listed)) (opsAt ops l) a → mixAt P ops T C Q (l.length + fuel) listed a
  | [], fuel, listed, a, _, _, h => by
    rw [show ([] : List Nat).length + fuel = fuel by simp]
    exact h
  | i :: l, fuel, listed, a, hcl, hB, h => by
    simp only [fltB, Bool.and_eq_true] at hB
    obtain ⟨⟨⟨⟨hr, hf⟩, ht⟩, hp⟩, hB'⟩ := hB
    cases ho : ops[i]? with
    | none => rw [ho] at hp; cases hp
    | some o =>
      rw [ho] at hp
      have hl : opsAt ops (i :: l) = o :: opsAt ops l := opsAt_cons ho
      rw [hl] at h
      obtain ⟨v, hy, hK⟩ := flt_of_quiet ho (by simpa using hp) (wpQuiet_split h)
      have hm := mix_flt0 hs l fuel (listed.setIfInBounds i true) (a.put o.dst v) (hcl.set (by simpa using hr)) hB' hK
      intro w hw
      have := anyK_first (T := T) (C := C) (Q := Q) ho (Region.noSelect_spec hs) (tailsB_spec ht) (l.length + fuel) listed a w hw hcl (Region.free_spec ho hf) (by simpa using hr) hy (hm w hw)
      rw [show (i :: l).length + fuel = l.length + fuel + 1 by simp; omega]
      exact this

theorem mix_flt (hs : Region.noSelect ops = true) (l : List Nat) (fuel : Nat) (listed : Array Bool) (a : Act) (hB : (closedB ops listed && fltB ops T l listed) = true)
    (h : wpQuiet P ops C (mixAt P ops T C Q fuel (listAll l listed)) (opsAt ops l) a) : mixAt P ops T C Q (l.length + fuel) listed a := by
  simp only [Bool.and_eq_true] at hB
  exact mix_flt0 hs l fuel listed a (closedB_spec hB.1) hB.2 h

/-- What stands behind an operation that may turn the world: a class, no wider, that the new world is of. -/
def Then (P : Program) (ops : Array Oper) (T : List Nat) (C : World → Prop) (Q : Exit → Act → World → Prop) (fuel : Nat) (listed : Array Bool) (a : Act) (w : World) : Prop :=
  ∃ C' : World → Prop, C' w ∧ (∀ x, C' x → C x) ∧ mixAt P ops T C' Q fuel listed a

theorem Then.same {fuel : Nat} {listed : Array Bool} {a : Act} {w : World} (hw : C w) (h : mixAt P ops T C Q fuel listed a) : Then P ops T C Q fuel listed a w := ⟨C, hw, fun _ h => h, h⟩

theorem wpOp_of_list {i : Nat} {o : Oper} {K : Act → World → Prop} {a : Act} {w : World} (ho : ops[i]? = some o) (h : wpList P ops (Exit.then K (Calm Q)) [o] a w) : wpOp P ops (Calm Q) i K a w := by
  unfold wpOp
  simp only [ho]
  simp only [wpList] at h
  by_cases hw : Region.wanted o (yielded ops a.tmps) = true
  · rw [if_pos hw] at h ⊢
    rcases h with h | ⟨h1, a', w', h2⟩
    · refine .inl ?_
      unfold Oper.wp at *
      generalize (execOp a.eval o).run P w = r at h ⊢
      cases r with
      | ok n w' =>
        cases n <;> simp only [Oper.upon] at h ⊢
        case enter f args =>
          refine Calls.mono h fun e w'' he => ?_
          cases e with
          | returned u => exact he
          | panicked c => exact he
          | outgrown => obtain ⟨a', w', h2⟩ := he; exact ⟨a', w', h2⟩
        all_goals exact h
      | halt x w' =>
        cases x <;> simp only [Oper.upon] at h ⊢
        case panic u => exact h
    · exact .inr ⟨h1, a', w', h2⟩
  · rw [if_neg hw] at h ⊢
    exact h

theorem mix_ch {i : Nat} {fuel : Nat} {listed : Array Bool} {a : Act} (hr : Region.ready .any ops listed = [i]) (o : Oper) (ho : ops[i]? = some o)
    (h : ∀ w, C w → wpList P ops (Exit.then (Then P ops T C Q fuel (listed.setIfInBounds i true)) (Calm Q)) [o] a w) : mixAt P ops T C Q (fuel + 1) listed a := by
  intro w hw
  refine ⟨fun h0 => (by rw [h0] at hr; cases hr), fun j hj => ?_⟩
  rw [hr] at hj
  obtain rfl : j = i := by simpa using hj
  refine wpOp_mono (fun a' w' hk => ?_) (wpOp_of_list ho (h w hw))
  obtain ⟨C', h1, h2, h3⟩ := hk
  exact ⟨.inr (h2 _ h1), anyK_class h2 _ _ _ _ (h3 _ h1)⟩

/-- The tail: one behind the other. -/
def tailB (ops : Array Oper) (T : List Nat) : List Nat → Array Bool → Bool
  | [], listed => (Region.ready .any ops listed).isEmpty
  | i :: l, listed => (Region.ready .any ops listed == [i]) && T.contains i && (ops[i]?).isSome && tailB ops T l (listed.setIfInBounds i true)

theorem anyK_tail : ∀ (l : List Nat) (listed : Array Bool) (a : Act) (w : World), tailB ops T l listed = true → wpList P ops (Calm Q) (opsAt ops l) a w → anyK P ops T C Q l.length listed a w
  | [], listed, a, w, hB, h => ⟨by simpa [tailB] using hB, h⟩
  | i :: l, listed, a, w, hB, h => by
    simp only [tailB, Bool.and_eq_true, beq_iff_eq] at hB
    obtain ⟨⟨⟨hr, hT⟩, hs⟩, hB'⟩ := hB
    cases ho : ops[i]? with
    | none => rw [ho] at hs; cases hs
    | some o =>
      have hl : opsAt ops (i :: l) = o :: opsAt ops l := opsAt_cons ho
      rw [hl] at h
      refine ⟨fun h0 => (by rw [h0] at hr; cases hr), fun j hj => ?_⟩
      rw [hr] at hj
      obtain rfl : j = i := by simpa using hj
      have h' : wpOp P ops (Calm Q) j (wpList P ops (Calm Q) (opsAt ops l)) a w := by
        unfold wpOp
        simp only [ho]
        exact h
      exact wpOp_mono (fun a' w' hk => ⟨.inl (by simpa using hT), anyK_tail l _ a' w' hB' hk⟩) h'

theorem mix_end (l : List Nat) {listed : Array Bool} {a : Act} (hB : tailB ops T l listed = true) (h : ∀ w, C w → wpList P ops (Calm Q) (opsAt ops l) a w) : mixAt P ops T C Q l.length listed a :=
  fun w hw => anyK_tail l listed a w hB (h w hw)

theorem mix_start {id : Nat} {a : Act} {w : World} (T : List Nat) (C : World → Prop) (hm : P.follows .mixedOrders = true) (hC : C { w with drawn := w.drawn + 1 })
    (h : mixAt P ops T C Q ops.size (Array.replicate ops.size false) a) : (Code.region id ops true).wp P Q a w :=
  wp_region_any hm (wpAny_of_anyK _ _ _ _ (h _ hC))
end
end Go.Proofs.YthcojmpigdojoaaDoor

/- bin's reader.value. No conditions. -/
import Derived.Test.YtghkeilgdmnnlaaDoorBinRd
import Derived.Test.YtghkeilgdmnnlaaDoorMixW
import Derived.Test.YtghkeilgdmnnlaaDoorAcc
import Derived.Laws.DeepNot64
import Derived.Laws.Bits64b
set_option linter.unusedVariables false
set_option linter.unusedSimpArgs false
namespace Go.Proofs.YtghkeilgdmnnlaaDoor
open Go Go.RowKit Go.BigFrame
set_option maxRecDepth 100000

def repN {α : Type} (f : St → α × St) : Nat → St → List α × St
  | 0, st => ([], st)
  | n + 1, st => if st.2 = true then ([], st) else ((f st).1 :: (repN f n (f st).2).1, (repN f n (f st).2).2)
def fieldP (f : St → DVal × St) (st : St) : (List UInt8 × DVal) × St :=
  (((takeP (numP st).1 (numP st).2).1, (f (takeP (numP st).1 (numP st).2).2).1), (f (takeP (numP st).1 (numP st).2).2).2)
def zagN (n : Nat) : Int := if n % 2 = 0 then ((n / 2 : Nat) : Int) else -((n / 2 : Nat) : Int) - 1
/-- The value that is read; at most k deep. -/
def valueP : Nat → St → DVal × St
  | 0, st => (.zero, (st.1, true))
  | k + 1, (l, bad) => if bad = true then (.zero, (l, true)) else match l with
    | [] => (.zero, ([], true))
    | b :: l =>
      if b = 0 then (.zero, (l, false))
      else if b = 1 then (.mk 1 false 0 [] [] [], (l, false))
      else if b = 2 then (.mk 1 true 0 [] [] [], (l, false))
      else if b = 3 then (.mk 2 false (zagN (numP (l, false)).1) [] [] [], (numP (l, false)).2)
      else if b = 4 then (.mk 3 false 0 (takeP (numP (l, false)).1 (numP (l, false)).2).1 [] [], (takeP (numP (l, false)).1 (numP (l, false)).2).2)
      else if b = 5 then (.mk 4 false 0 (takeP (numP (l, false)).1 (numP (l, false)).2).1 [] [], (takeP (numP (l, false)).1 (numP (l, false)).2).2)
      else if b = 6 then (.mk 5 false 0 [] (repN (valueP k) (manyP (l, false)).1 (manyP (l, false)).2).1 [], (repN (valueP k) (manyP (l, false)).1 (manyP (l, false)).2).2)
      else if b = 7 then (.mk 6 false 0 [] [] (repN (fieldP (valueP k)) (manyP (l, false)).1 (manyP (l, false)).2).1, (repN (fieldP (valueP k)) (manyP (l, false)).1 (manyP (l, false)).2).2)
      else (.zero, (l, true))
/-- What a read of a value leaves. -/
def RvPost (B g : Nat) (w : World) (r : DVal × St) (e' : Ending) (w' : World) : Prop := ∃ cs, e' = .returned (.agg cs.toArray) ∧ HasVal (fun b => w.heap.size ≤ b) w' r.1 cs ∧ RdBlk w' g 56 r.2 ∧ Rd B g w w'
def RvOk (k : Nat) : Prop := ∀ (st : St) (dI : Int) (B g : Nat) (w : World), dI = 7 - (k : Int) → B ≤ g → RdBlk w g 56 st → st.1.length ≤ 16384 →
  Calls Tryd.prog 27 #[.pointer (some ⟨g, 0, none⟩), .int .i64 dI] w (RvPost B g w (valueP k st))
/-- All old blocks but g are as they were. -/
def KeptG (g : Nat) (w w' : World) : Prop := w.heap.size ≤ w'.heap.size ∧ ∀ b, b < w.heap.size → b ≠ g → w'.heap[b]? = w.heap[b]?
theorem KeptG.refl (g : Nat) (w : World) : KeptG g w w := ⟨Nat.le_refl _, fun _ _ _ => rfl⟩
theorem KeptG.trans {g : Nat} {a b c : World} (h : KeptG g a b) (k : KeptG g b c) : KeptG g a c := ⟨Nat.le_trans h.1 k.1, fun i hi hg => by rw [k.2 i (Nat.lt_of_lt_of_le hi h.1) hg, h.2 i hi hg]⟩
theorem KeptG.of_rd {B g : Nat} {w w' : World} (h : Rd B g w w') : KeptG g w w' := ⟨h.2.1, h.2.2⟩
theorem KeptG.of_below {g : Nat} {w w' : World} (h : Below w.heap.size w w') : KeptG g w w' := ⟨h.size, fun b hb _ => h.block b hb⟩
open Classical in
noncomputable def extG (g : Nat) (w x : World) : World := if KeptG g w x then x else w
theorem extG_kept (g : Nat) (w x : World) : KeptG g w (extG g w x) := by
  unfold extG
  split
  · assumption
  · exact KeptG.refl _ _
theorem extG_of {g : Nat} {w x : World} (h : KeptG g w x) : x = extG g w x := by
  unfold extG
  rw [if_pos h]
def ClsG (g : Nat) (w : World) : World → Prop := fun w' => ∃ x, w' = extG g w x
theorem ClsG_def (g : Nat) (w : World) : ClsG g w = fun w' => ∃ x, w' = extG g w x := rfl
theorem ClsG.of {g : Nat} {w x : World} (h : KeptG g w x) : ClsG g w x := ⟨x, extG_of h⟩
theorem ClsG.kept {g : Nat} {w x : World} (h : ClsG g w x) : KeptG g w x := by
  obtain ⟨y, rfl⟩ := h
  exact extG_kept g w y
theorem ClsG.drew (g : Nat) (w : World) : ClsG g w { w with drawn := w.drawn + 1 } := .of ⟨Nat.le_refl _, fun _ _ _ => rfl⟩
theorem ClsG.trans {g : Nat} {w x y : World} (h : ClsG g w x) (k : KeptG g x y) : ClsG g w y := .of (h.kept.trans k)
/-- A block that is there and is not g. -/
def Og (g : Nat) (w : World) (b : Nat) : Prop := b < w.heap.size ∧ b ≠ g
@[go_sem] theorem extG_cell (g : Nat) (w x : World) (b o : Nat) (h : Og g w b) : (extG g w x).cell? ⟨b, o, none⟩ = w.cell? ⟨b, o, none⟩ := by
  unfold World.cell?
  rw [(extG_kept g w x).2 b h.1 h.2]
theorem xor_comm64 (a b : Int) : bits .xor .i64 a b = bits .xor .i64 b a := by
  show IntKind.i64.wrap ((BitVec.ofInt 64 a ^^^ BitVec.ofInt 64 b).toNat : Int) = IntKind.i64.wrap ((BitVec.ofInt 64 b ^^^ BitVec.ofInt 64 a).toNat : Int)
  rw [BitVec.xor_comm]
theorem xor_zero64 (a : Nat) (ha : a < 9223372036854775808) : bits .xor .i64 (a : Int) 0 = (a : Int) := by
  show IntKind.i64.wrap ((BitVec.ofInt 64 (a : Int) ^^^ BitVec.ofInt 64 0).toNat : Int) = _
  have h1 : BitVec.ofInt 64 0 = 0#64 := by decide
  rw [h1, BitVec.xor_zero, ofInt_u64 a (by omega)]
  simp [IntKind.wrap, IntKind.bits, IntKind.signed]
  omega
theorem zag_walk (n : Nat) (hn : n < 18446744073709551616) : bits .xor .i64 ((n : Int) / 2) (wrap64 (-wrap64 (bits .and .u64 (n : Int) 1))) = zagN n := by
  have e : bits .and .u64 (n : Int) ((1 : Nat) : Int) = ((n % 2 : Nat) : Int) := by
    rw [bits_and_u64_nat n 1 hn (by decide), Nat.and_one_is_mod]
  have e' : bits .and .u64 (n : Int) 1 = ((n % 2 : Nat) : Int) := e
  have e2 : (n : Int) / 2 = ((n / 2 : Nat) : Int) := by omega
  rw [e', e2, zagN]
  rcases Nat.mod_two_eq_zero_or_one n with h | h
  · rw [h, if_pos rfl]
    have : wrap64 (-wrap64 ((0 : Nat) : Int)) = 0 := by unfold wrap64; decide
    rw [this, xor_zero64 _ (by omega)]
  · rw [h, if_neg (by decide)]
    have : wrap64 (-wrap64 ((1 : Nat) : Int)) = -1 := by unfold wrap64; decide
    rw [this, xor_comm64, i64_not _ (by omega)]
    omega
theorem zagN_range (n : Nat) (hn : n < 18446744073709551616) : -9223372036854775808 ≤ zagN n ∧ zagN n ≤ 9223372036854775807 := by
  unfold zagN
  split <;> omega
/-- One result: a struct that lies in a block known whole. -/
theorem results_c {P : Program} {fn : Func} {p : Tmp} {ty : TypeId} (h : fn.results = #[.cell p ty]) {tmps : Array Value} {w : World} {g : Nat} {t : TypeId} {cs : Array Value} {d : TypeDesc}
    (hp : tmps.getD p undef = .pointer (some ⟨g, 0, none⟩)) (hg : IsBlk w g cs t) (hu : P.underlying ty = some d) (hd : (match d with | .struct _ | .array _ _ => true | _ => false) = true) (hi : (P.info? ty).map (·.size) = some cs.size) :
    (results fn tmps).run P w = .ok (.agg cs) w := by
  have hp' : tmps[p]?.getD undef = .pointer (some ⟨g, 0, none⟩) := by simpa using hp
  simp [results, h, hp', asAddr, run_loadVar_row w g t ty cs (0, 0) d hg hu hd hi]
theorem zero_has (S : Nat → Prop) (w : World) : HasVal S w .zero [.int .u8 0, .bool false, .int .i64 0, .string (bs []), .slice none 0 0, .slice none 0 0] :=
  hasVal_mk.2 ⟨none, 0, none, 0, rfl, ⟨by omega, by omega, by omega, by simp, by simp, by simp, by simp, by unfold maxLen; omega, by simp, by unfold maxLen; omega⟩, fun i hi => by simp at hi, fun i hi => by simp at hi⟩
theorem flat_has (S : Nat → Prop) (w : World) (k : Nat) (hk : k < 256) (b : Bool) (n : Int) (h0 : -9223372036854775808 ≤ n) (h1 : n ≤ 9223372036854775807) (s : List UInt8) (hs : s.length ≤ 1073741824) : HasVal S w (.mk k b n s [] []) [.int .u8 (k : Int), .bool b, .int .i64 n, .string (bs s), .slice none 0 0, .slice none 0 0] :=
  hasVal_mk.2 ⟨none, 0, none, 0, rfl, ⟨hk, h0, h1, hs, by simp, by simp, by simp, by unfold maxLen; omega, by simp, by unfold maxLen; omega⟩, fun i hi => by simp at hi, fun i hi => by simp at hi⟩
theorem bs0 (b : UInt8) (h : 0 < (bs [b]).size) : (bs [b])[0].toNat = b.toNat := rfl
theorem set6 {w : World} {g : Nat} {t : TypeId} {a0 a1 a2 a3 a4 a5 : Value} (h : IsBlk w g #[a0, a1, a2, a3, a4, a5] t) (c0 c1 c2 c3 c4 c5 : Value) :
    IsBlk ((((((w.setCell ⟨g, 0, none⟩ c0).setCell ⟨g, 1, none⟩ c1).setCell ⟨g, 2, none⟩ c2).setCell ⟨g, 3, none⟩ c3).setCell ⟨g, 4, none⟩ c4).setCell ⟨g, 5, none⟩ c5) g #[c0, c1, c2, c3, c4, c5] t := by
  simpa using (((((h.set 0 c0).set 1 c1).set 2 c2).set 3 c3).set 4 c4).set 5 c5
theorem Rd.setN {B g b o : Nat} {w w' : World} (h : Rd B g w w') (hB : B ≤ w.heap.size) (hb : w.heap.size ≤ b) (u : Value) : Rd B g w (w'.setCell ⟨b, o, none⟩ u) :=
  ⟨below_set h.1 (by omega), by simpa using h.2.1, fun i hi hg => by rw [Below.heap_setCell _ _ _ _ (show i ≠ b by omega)]; exact h.2.2 i hi hg⟩
theorem Rd.set6 {B g b : Nat} {w w' : World} (h : Rd B g w w') (hB : B ≤ w.heap.size) (hb : w.heap.size ≤ b) (c0 c1 c2 c3 c4 c5 : Value) :
    Rd B g w ((((((w'.setCell ⟨b, 0, none⟩ c0).setCell ⟨b, 1, none⟩ c1).setCell ⟨b, 2, none⟩ c2).setCell ⟨b, 3, none⟩ c3).setCell ⟨b, 4, none⟩ c4).setCell ⟨b, 5, none⟩ c5) :=
  (((((h.setN hB hb c0).setN hB hb c1).setN hB hb c2).setN hB hb c3).setN hB hb c4).setN hB hb c5
theorem Rd.alloc {B g : Nat} {w w' : World} (h : Rd B g w w') (hB : B ≤ w'.heap.size) (o : Obj) : Rd B g w (w'.alloc o) := h.trans (Rd.of_below ((Below.refl _ _).alloc (Nat.le_refl _) o) hB)
theorem oth6 {w : World} {g b : Nat} {cs : Array Value} {t : TypeId} (h : IsBlk w g cs t) (hne : b ≠ g) (c0 c1 c2 c3 c4 c5 : Value) :
    IsBlk ((((((w.setCell ⟨b, 0, none⟩ c0).setCell ⟨b, 1, none⟩ c1).setCell ⟨b, 2, none⟩ c2).setCell ⟨b, 3, none⟩ c3).setCell ⟨b, 4, none⟩ c4).setCell ⟨b, 5, none⟩ c5) g cs t :=
  (((((h.set_other hne c0).set_other hne c1).set_other hne c2).set_other hne c3).set_other hne c4).set_other hne c5
theorem Rd.grown {B g : Nat} {w w1 w2 : World} {row : Option Nat} (h : Rd B g w w1) (hg : w1.grownBy w2 row) (hB : B ≤ w.heap.size) (hr : ∀ k, row = some k → w.heap.size ≤ k) : Rd B g w w2 :=
  ⟨h.1.grown hg (by have := h.2.1; omega) (fun k hk => by have := hr k hk; omega), Nat.le_trans h.2.1 hg.size, fun b hb hbg => by
    rw [hg.block b (Nat.lt_of_lt_of_le hb h.2.1) (fun e => by have := hr b e.symm; omega), h.2.2 b hb hbg]⟩
theorem repN_zero {α : Type} (f : St → α × St) (st : St) : repN f 0 st = ([], st) := rfl
theorem repN_bad {α : Type} (f : St → α × St) (n : Nat) (l : List UInt8) : repN f n (l, true) = ([], (l, true)) := by cases n <;> rfl
theorem repN_more {α : Type} (f : St → α × St) (n : Nat) (l : List UInt8) : repN f (n + 1) (l, false) = ((f (l, false)).1 :: (repN f n (f (l, false)).2).1, (repN f n (f (l, false)).2).2) := rfl
theorem repN_len {α : Type} (f : St → α × St) (hf : ∀ st, (f st).2.1.length ≤ st.1.length) : ∀ (n : Nat) (st : St), (repN f n st).2.1.length ≤ st.1.length
  | 0, st => Nat.le_refl _
  | n + 1, st => by
    rw [repN]
    split
    · exact Nat.le_refl _
    · exact Nat.le_trans (repN_len f hf n _) (hf st)
theorem valueP_len : ∀ (k : Nat) (st : St), (valueP k st).2.1.length ≤ st.1.length := by
  intro k
  induction k with
  | zero => intro st; exact Nat.le_refl _
  | succ k ih =>
    rintro ⟨l, bad⟩
    cases bad
    · cases l with
      | nil => exact Nat.le_refl _
      | cons b l =>
        have h1 := numP_len (l, false)
        have h2 := takeP_len (numP (l, false)).1 (numP (l, false)).2
        have h3 := manyP_len (l, false)
        have h4 := repN_len (valueP k) ih (manyP (l, false)).1 (manyP (l, false)).2
        have h5 := repN_len (fieldP (valueP k)) (fun st => Nat.le_trans (ih _) (Nat.le_trans (takeP_len _ _) (numP_len st))) (manyP (l, false)).1 (manyP (l, false)).2
        simp only [] at h1 h2 h3 h4 h5
        rw [valueP, if_neg (by decide)]
        simp only [List.length_cons]
        repeat' split
        all_goals (simp only []; omega)
    · exact Nat.le_refl _
/-- The end of a read: the value is stored and handed back. -/
theorem rv_fin {tmps : Array Value} {w w2 : World} {B g h : Nat} {r : DVal × St} {a0 a1 a2 a3 a4 a5 c0 c1 c2 c3 c4 c5 : Value} (hp : tmps.getD 4 undef = .pointer (some ⟨h, 0, none⟩)) (hz : IsBlk w2 h #[a0, a1, a2, a3, a4, a5] 26) (hne : h ≠ g) (hrb : RdBlk w2 g 56 r.2) (hrd : Rd B g w w2) (hB : B ≤ w.heap.size) (hh : w.heap.size ≤ h)
    (hv : ∀ w', (∀ b, b ≠ h → w'.heap[b]? = w2.heap[b]?) → HasVal (fun b => w.heap.size ≤ b) w' r.1 [c0, c1, c2, c3, c4, c5]) :
    bodyPost Tryd.prog Tryd.f27 (RvPost B g w r) Exit.ret { tmps := tmps, defers := [] }
      ((((((w2.setCell ⟨h, 0, none⟩ c0).setCell ⟨h, 1, none⟩ c1).setCell ⟨h, 2, none⟩ c2).setCell ⟨h, 3, none⟩ c3).setCell ⟨h, 4, none⟩ c4).setCell ⟨h, 5, none⟩ c5) := by
  have hz6 := Go.Proofs.YtghkeilgdmnnlaaDoor.set6 hz c0 c1 c2 c3 c4 c5
  refine bodyPost_ret (v := .agg #[c0, c1, c2, c3, c4, c5]) (results_c (p := 4) (ty := 26) Tryd.results27 hp hz6 Tryd.underlying26 rfl (by kernel_rfl)) rfl ⟨[c0, c1, c2, c3, c4, c5], rfl, hv _ (fun b hb => ?_), oth6 hrb hne c0 c1 c2 c3 c4 c5, hrd.set6 hB hh c0 c1 c2 c3 c4 c5⟩
  have e : ∀ (W : World) (o : Nat) (u : Value), (W.setCell ⟨h, o, none⟩ u).heap[b]? = W.heap[b]? := fun W o u => Below.heap_setCell _ _ _ _ hb
  rw [e, e, e, e, e, e]
set_option maxHeartbeats 4000000 in
theorem rv_step (k : Nat) (ih : ∀ k', k = k' + 1 → RvOk k') (hk7 : k ≤ 7) : RvOk k := by
  intro st dI B g w hdI hBg hrb hl
  obtain ⟨l, bad⟩ := st
  simp only [] at hl
  obtain ⟨R, hR⟩ : ∃ R, R = valueP k (l, bad) := ⟨_, rfl⟩
  rw [← hR]
  have hblk : IsBlk w g #[.string (bs l), .bool bad] 56 := hrb
  clear hrb
  have hglt := hblk.lt
  have hsz := bs_size l
  by_cases hA : bad = true ∨ k = 0
  · have hR2 : R = (.zero, (l, true)) := by
      rw [hR]
      cases k with
      | zero => rfl
      | succ k =>
        have hb : bad = true := hA.resolve_right (by omega)
        subst hb
        rfl
    have hd6 : bad = false → (6 : Int) < dI := fun hb => by
      have : k = 0 := hA.resolve_left (by rw [hb]; decide)
      omega
    clear hR
    subst hR2
    have HD := Lib.hid hdI
    have HI := Lib.hid ih
    clear hdI hA ih
    have c1 : w.cell? ⟨g, 1, none⟩ = some (.bool bad) := hblk.cell rfl
    have f1 : w.frozen? ⟨g, 1, none⟩ = false := hblk.frozen 1
    have HK := Lib.hid hblk
    clear hblk
    have hW : ∀ x, RdBlk ((w.setCell ⟨g, 1, none⟩ (.bool true)).alloc x) g 56 (l, true) := fun x => rdBlk_mk (by simpa using (HK.out.set 1 (.bool true)).alloc x)
    have hBw : B ≤ w.heap.size := by omega
    have hRW : ∀ x, Rd B g w ((w.setCell ⟨g, 1, none⟩ (.bool true)).alloc x) := fun x => ((Rd.refl B g w).set hBg _).alloc (by simpa using hBw) x
    have HW := Lib.hid hW
    have HRW := Lib.hid hRW
    clear hW hRW
    have hd : bad = true ∨ (bad = false ∧ (6 : Int) < dI) := by
      cases bad
      · exact Or.inr ⟨rfl, hd6 rfl⟩
      · exact Or.inl rfl
    clear hd6
    rcases hd with hd | ⟨hd, hd2⟩
    all_goals
      subst hd
      go_enter Tryd.func27, Tryd.ntmps27
      go_wp2_with fail
      go_at_call 48
      refine (take_any B g 56 1 (l, true) _ hBg (HW.out _) (show l.length ≤ 281474976710656 by omega) (by omega)).mono ?_
      rintro e' w2 ⟨rfl, hb, hrd⟩
      have hb2 : IsBlk w2 g #[.string (bs l), .bool true] 56 := by
        have : RdBlk w2 g 56 (takeP 1 (l, true)).2 := hb
        rw [takeP, if_pos (Or.inl rfl)] at this
        exact this
      have hz := hrd.blk (IsBlk.new_at (by simp)) (by omega : w.heap.size ≠ g)
      have hr2 := (HRW.out _).trans hrd
      have c1 : w2.cell? ⟨g, 1, none⟩ = some (.bool true) := hb2.cell rfl
      have fz : ∀ i, w2.frozen? ⟨w.heap.size, i, none⟩ = false := fun i => hz.frozen i
      have f0 := fz 0
      have f1 := fz 1
      have f2 := fz 2
      have f3 := fz 3
      have f4 := fz 4
      have f5 := fz 5
      have z0 : w2.cell? ⟨w.heap.size, 0, none⟩ = some (.int .u8 0) := hz.cell rfl
      have z1 : w2.cell? ⟨w.heap.size, 1, none⟩ = some (.bool false) := hz.cell rfl
      have z2 : w2.cell? ⟨w.heap.size, 2, none⟩ = some (.int .i64 0) := hz.cell rfl
      have z3 : w2.cell? ⟨w.heap.size, 3, none⟩ = some (.string (bs [])) := hz.cell rfl
      have z4 : w2.cell? ⟨w.heap.size, 4, none⟩ = some (.slice none 0 0) := hz.cell rfl
      have z5 : w2.cell? ⟨w.heap.size, 5, none⟩ = some (.slice none 0 0) := hz.cell rfl
      have HZ := Lib.hid hz
      have HB2 := Lib.hid hb2
      have HR2 := Lib.hid hr2
      clear hb hrd hb2 hz hr2 fz
      go_wp2
      exact rv_fin (r := (.zero, (l, true))) rfl HZ.out (by omega) HB2.out HR2.out hBw (Nat.le_refl _) (fun w' _ => zero_has _ w')
  · skip
    have hbad : bad = false := by cases bad <;> simp_all
    have hk0 : k ≠ 0 := fun h => hA (Or.inr h)
    obtain ⟨k, rfl⟩ : ∃ k', k = k' + 1 := ⟨k - 1, by omega⟩
    have IH := Lib.hid (ih k rfl)
    have hd6 : dI ≤ 6 := by omega
    have hd0 : 0 ≤ dI := by omega
    have hdb : decide ((6 : Int) < dI) = false := decide_eq_false (by omega)
    have HD := Lib.hid hdI
    clear hA ih hk0 hdI
    subst hbad
    have c1 : w.cell? ⟨g, 1, none⟩ = some (.bool false) := hblk.cell rfl
    have f1 : w.frozen? ⟨g, 1, none⟩ = false := hblk.frozen 1
    have hW : ∀ x, RdBlk ((w.setCell ⟨g, 1, none⟩ (.bool false)).alloc x) g 56 (l, false) := fun x => rdBlk_mk (by simpa using (hblk.set 1 (.bool false)).alloc x)
    have hBw : B ≤ w.heap.size := by omega
    have hRW : ∀ x, Rd B g w ((w.setCell ⟨g, 1, none⟩ (.bool false)).alloc x) := fun x => ((Rd.refl B g w).set hBg _).alloc (by simpa using hBw) x
    have HW := Lib.hid hW
    have HRW := Lib.hid hRW
    clear hW hRW hblk
    cases l with
    | nil =>
      have hRe : R = (.zero, ([], true)) := by rw [hR]; rfl
      clear hR
      subst hRe
      go_enter Tryd.func27, Tryd.ntmps27
      go_wp2_with fail
      go_at_call 48
      refine (take_any B g 56 1 ([], false) _ hBg (HW.out _) (show ([]).length ≤ 281474976710656 by (try rw [List.length_cons]); omega) (by omega)).mono ?_
      rintro e' w2 ⟨he, hb, hrd⟩
      rw [show takeP 1 ([], false) = ([], ([], true)) from rfl] at he hb
      subst he
      have hb2 : IsBlk w2 g #[.string (bs []), .bool true] 56 := hb
      have hz := hrd.blk (IsBlk.new_at (by simp)) (by omega : w.heap.size ≠ g)
      have hr2 := (HRW.out _).trans hrd
      have c1 : w2.cell? ⟨g, 1, none⟩ = some (.bool true) := hb2.cell rfl
      have fz : ∀ i, w2.frozen? ⟨w.heap.size, i, none⟩ = false := fun i => hz.frozen i
      have f0 := fz 0
      have f1 := fz 1
      have f2 := fz 2
      have f3 := fz 3
      have f4 := fz 4
      have f5 := fz 5
      have z0 : w2.cell? ⟨w.heap.size, 0, none⟩ = some (.int .u8 0) := hz.cell rfl
      have z1 : w2.cell? ⟨w.heap.size, 1, none⟩ = some (.bool false) := hz.cell rfl
      have z2 : w2.cell? ⟨w.heap.size, 2, none⟩ = some (.int .i64 0) := hz.cell rfl
      have z3 : w2.cell? ⟨w.heap.size, 3, none⟩ = some (.string (bs [])) := hz.cell rfl
      have z4 : w2.cell? ⟨w.heap.size, 4, none⟩ = some (.slice none 0 0) := hz.cell rfl
      have z5 : w2.cell? ⟨w.heap.size, 5, none⟩ = some (.slice none 0 0) := hz.cell rfl
      have hg2 := hb2.lt
      have hh2 := hz.lt
      have HZ := Lib.hid hz
      have HB2 := Lib.hid hb2
      have HR2 := Lib.hid hr2
      clear hb hrd hb2 hz hr2 fz
      go_wp2
      exact rv_fin (r := (.zero, ([], true))) rfl HZ.out (by omega) HB2.out HR2.out hBw (Nat.le_refl _) (fun w' _ => zero_has _ w')
    | cons b l =>
      simp only [List.length_cons] at hl hsz
      have h01 : 0 < (bs [b]).size := by rw [bs_size]; simp
      have hs1 : (bs [b]).size = 1 := bs_size [b]
      obtain ⟨q, hq⟩ : ∃ q, q = b.toNat := ⟨_, rfl⟩
      have hbx : (bs [b])[0].toNat = q := by rw [hq]; rfl
      have hq256 : q < 256 := by rw [hq]; exact b.toNat_lt
      have hbq : ∀ n : Nat, n < 256 → (b = UInt8.ofNat n ↔ q = n) := fun n hn => by
        rw [hq]
        constructor
        · intro h; rw [h, UInt8.toNat_ofNat']; omega
        · intro h; rw [← h]; exact (UInt8.ofNat_toNat).symm
      have HQ := Lib.hid hq
      have HB0q : Hid (b = 0 ↔ q = 0) := Lib.hid (hbq 0 (by decide))
      have HB1q : Hid (b = 1 ↔ q = 1) := Lib.hid (hbq 1 (by decide))
      have HB2q : Hid (b = 2 ↔ q = 2) := Lib.hid (hbq 2 (by decide))
      have HB3q : Hid (b = 3 ↔ q = 3) := Lib.hid (hbq 3 (by decide))
      have HB4q : Hid (b = 4 ↔ q = 4) := Lib.hid (hbq 4 (by decide))
      have HB5q : Hid (b = 5 ↔ q = 5) := Lib.hid (hbq 5 (by decide))
      have HB6q : Hid (b = 6 ↔ q = 6) := Lib.hid (hbq 6 (by decide))
      have HB7q : Hid (b = 7 ↔ q = 7) := Lib.hid (hbq 7 (by decide))
      clear hq hbq
      by_cases k0 : q = 0
      · skip
        have hRe : R = (.zero, (l, false)) := by
          rw [hR, valueP, if_neg (by decide)]
          (try simp only [])
          rw [if_pos (HB0q.out.2 k0)]
        clear hR
        subst hRe
        have q0 : ((q : Int) == 0) = true := by simp; omega
        go_enter Tryd.func27, Tryd.ntmps27
        go_wp2_with fail
        go_at_call 48
        refine (take_any B g 56 1 (b :: l, false) _ hBg (HW.out _) (show (b :: l).length ≤ 281474976710656 by (try rw [List.length_cons]); omega) (by omega)).mono ?_
        rintro e' w2 ⟨he, hb, hrd⟩
        rw [show takeP 1 (b :: l, false) = ([b], (l, false)) by rw [takeP, if_neg (by simp)]; rfl] at he hb
        subst he
        have hb2 : IsBlk w2 g #[.string (bs l), .bool false] 56 := hb
        have hz := hrd.blk (IsBlk.new_at (by simp)) (by omega : w.heap.size ≠ g)
        have hr2 := (HRW.out _).trans hrd
        have c1 : w2.cell? ⟨g, 1, none⟩ = some (.bool false) := hb2.cell rfl
        have fz : ∀ i, w2.frozen? ⟨w.heap.size, i, none⟩ = false := fun i => hz.frozen i
        have f0 := fz 0
        have f1 := fz 1
        have f2 := fz 2
        have f3 := fz 3
        have f4 := fz 4
        have f5 := fz 5
        have z0 : w2.cell? ⟨w.heap.size, 0, none⟩ = some (.int .u8 0) := hz.cell rfl
        have z1 : w2.cell? ⟨w.heap.size, 1, none⟩ = some (.bool false) := hz.cell rfl
        have z2 : w2.cell? ⟨w.heap.size, 2, none⟩ = some (.int .i64 0) := hz.cell rfl
        have z3 : w2.cell? ⟨w.heap.size, 3, none⟩ = some (.string (bs [])) := hz.cell rfl
        have z4 : w2.cell? ⟨w.heap.size, 4, none⟩ = some (.slice none 0 0) := hz.cell rfl
        have z5 : w2.cell? ⟨w.heap.size, 5, none⟩ = some (.slice none 0 0) := hz.cell rfl
        have hg2 := hb2.lt
        have hh2 := hz.lt
        have HZ := Lib.hid hz
        have HB2 := Lib.hid hb2
        have HR2 := Lib.hid hr2
        clear hb hrd hb2 hz hr2 fz
        clear c1
        have c1 : w2.cell? ⟨g, 1, none⟩ = some (.bool false) := HB2.out.cell rfl
        go_wp2
        exact rv_fin (r := (.zero, (l, false))) rfl HZ.out (by omega) HB2.out HR2.out hBw (Nat.le_refl _) (fun w' _ => zero_has _ w')
      by_cases k1 : q = 1
      · skip
        have hRe : R = (.mk 1 false 0 [] [] [], (l, false)) := by
          rw [hR, valueP, if_neg (by decide)]
          (try simp only [])
          rw [if_neg (fun h => k0 (HB0q.out.1 h)), if_pos (HB1q.out.2 k1)]
        clear hR
        subst hRe
        have q0 : ((q : Int) == 0) = false := by simp; omega
        have q1 : ((q : Int) == 1) = true := by simp; omega
        go_enter Tryd.func27, Tryd.ntmps27
        go_wp2_with fail
        go_at_call 48
        refine (take_any B g 56 1 (b :: l, false) _ hBg (HW.out _) (show (b :: l).length ≤ 281474976710656 by (try rw [List.length_cons]); omega) (by omega)).mono ?_
        rintro e' w2 ⟨he, hb, hrd⟩
        rw [show takeP 1 (b :: l, false) = ([b], (l, false)) by rw [takeP, if_neg (by simp)]; rfl] at he hb
        subst he
        have hb2 : IsBlk w2 g #[.string (bs l), .bool false] 56 := hb
        have hz := hrd.blk (IsBlk.new_at (by simp)) (by omega : w.heap.size ≠ g)
        have hr2 := (HRW.out _).trans hrd
        have c1 : w2.cell? ⟨g, 1, none⟩ = some (.bool false) := hb2.cell rfl
        have fz : ∀ i, w2.frozen? ⟨w.heap.size, i, none⟩ = false := fun i => hz.frozen i
        have f0 := fz 0
        have f1 := fz 1
        have f2 := fz 2
        have f3 := fz 3
        have f4 := fz 4
        have f5 := fz 5
        have z0 : w2.cell? ⟨w.heap.size, 0, none⟩ = some (.int .u8 0) := hz.cell rfl
        have z1 : w2.cell? ⟨w.heap.size, 1, none⟩ = some (.bool false) := hz.cell rfl
        have z2 : w2.cell? ⟨w.heap.size, 2, none⟩ = some (.int .i64 0) := hz.cell rfl
        have z3 : w2.cell? ⟨w.heap.size, 3, none⟩ = some (.string (bs [])) := hz.cell rfl
        have z4 : w2.cell? ⟨w.heap.size, 4, none⟩ = some (.slice none 0 0) := hz.cell rfl
        have z5 : w2.cell? ⟨w.heap.size, 5, none⟩ = some (.slice none 0 0) := hz.cell rfl
        have hg2 := hb2.lt
        have hh2 := hz.lt
        have HZ := Lib.hid hz
        have HB2 := Lib.hid hb2
        have HR2 := Lib.hid hr2
        clear hb hrd hb2 hz hr2 fz
        clear c1
        have c1 : w2.cell? ⟨g, 1, none⟩ = some (.bool false) := HB2.out.cell rfl
        go_wp2
        exact rv_fin (r := (.mk 1 false 0 [] [] [], (l, false))) rfl HZ.out (by omega) HB2.out HR2.out hBw (Nat.le_refl _) (fun w' _ => flat_has _ w' 1 (by decide) false 0 (by decide) (by decide) [] (by decide))
      by_cases k2 : q = 2
      · skip
        have hRe : R = (.mk 1 true 0 [] [] [], (l, false)) := by
          rw [hR, valueP, if_neg (by decide)]
          (try simp only [])
          rw [if_neg (fun h => k0 (HB0q.out.1 h)), if_neg (fun h => k1 (HB1q.out.1 h)), if_pos (HB2q.out.2 k2)]
        clear hR
        subst hRe
        have q0 : ((q : Int) == 0) = false := by simp; omega
        have q1 : ((q : Int) == 1) = false := by simp; omega
        have q2 : ((q : Int) == 2) = true := by simp; omega
        go_enter Tryd.func27, Tryd.ntmps27
        go_wp2_with fail
        go_at_call 48
        refine (take_any B g 56 1 (b :: l, false) _ hBg (HW.out _) (show (b :: l).length ≤ 281474976710656 by (try rw [List.length_cons]); omega) (by omega)).mono ?_
        rintro e' w2 ⟨he, hb, hrd⟩
        rw [show takeP 1 (b :: l, false) = ([b], (l, false)) by rw [takeP, if_neg (by simp)]; rfl] at he hb
        subst he
        have hb2 : IsBlk w2 g #[.string (bs l), .bool false] 56 := hb
        have hz := hrd.blk (IsBlk.new_at (by simp)) (by omega : w.heap.size ≠ g)
        have hr2 := (HRW.out _).trans hrd
        have c1 : w2.cell? ⟨g, 1, none⟩ = some (.bool false) := hb2.cell rfl
        have fz : ∀ i, w2.frozen? ⟨w.heap.size, i, none⟩ = false := fun i => hz.frozen i
        have f0 := fz 0
        have f1 := fz 1
        have f2 := fz 2
        have f3 := fz 3
        have f4 := fz 4
        have f5 := fz 5
        have z0 : w2.cell? ⟨w.heap.size, 0, none⟩ = some (.int .u8 0) := hz.cell rfl
        have z1 : w2.cell? ⟨w.heap.size, 1, none⟩ = some (.bool false) := hz.cell rfl
        have z2 : w2.cell? ⟨w.heap.size, 2, none⟩ = some (.int .i64 0) := hz.cell rfl
        have z3 : w2.cell? ⟨w.heap.size, 3, none⟩ = some (.string (bs [])) := hz.cell rfl
        have z4 : w2.cell? ⟨w.heap.size, 4, none⟩ = some (.slice none 0 0) := hz.cell rfl
        have z5 : w2.cell? ⟨w.heap.size, 5, none⟩ = some (.slice none 0 0) := hz.cell rfl
        have hg2 := hb2.lt
        have hh2 := hz.lt
        have HZ := Lib.hid hz
        have HB2 := Lib.hid hb2
        have HR2 := Lib.hid hr2
        clear hb hrd hb2 hz hr2 fz
        clear c1
        have c1 : w2.cell? ⟨g, 1, none⟩ = some (.bool false) := HB2.out.cell rfl
        go_wp2
        exact rv_fin (r := (.mk 1 true 0 [] [] [], (l, false))) rfl HZ.out (by omega) HB2.out HR2.out hBw (Nat.le_refl _) (fun w' _ => flat_has _ w' 1 (by decide) true 0 (by decide) (by decide) [] (by decide))
      by_cases k3 : q = 3
      · skip
        have hRe : R = (.mk 2 false (zagN (numP (l, false)).1) [] [] [], (numP (l, false)).2) := by
          rw [hR, valueP, if_neg (by decide)]
          (try simp only [])
          rw [if_neg (fun h => k0 (HB0q.out.1 h)), if_neg (fun h => k1 (HB1q.out.1 h)), if_neg (fun h => k2 (HB2q.out.1 h)), if_pos (HB3q.out.2 k3)]
        clear hR
        have q0 : ((q : Int) == 0) = false := by simp; omega
        have q1 : ((q : Int) == 1) = false := by simp; omega
        have q2 : ((q : Int) == 2) = false := by simp; omega
        have q3 : ((q : Int) == 3) = true := by simp; omega
        go_enter Tryd.func27, Tryd.ntmps27
        go_wp2_with fail
        go_at_call 48
        refine (take_any B g 56 1 (b :: l, false) _ hBg (HW.out _) (show (b :: l).length ≤ 281474976710656 by (try rw [List.length_cons]); omega) (by omega)).mono ?_
        rintro e' w2 ⟨he, hb, hrd⟩
        rw [show takeP 1 (b :: l, false) = ([b], (l, false)) by rw [takeP, if_neg (by simp)]; rfl] at he hb
        subst he
        have hb2 : IsBlk w2 g #[.string (bs l), .bool false] 56 := hb
        have hz := hrd.blk (IsBlk.new_at (by simp)) (by omega : w.heap.size ≠ g)
        have hr2 := (HRW.out _).trans hrd
        have c1 : w2.cell? ⟨g, 1, none⟩ = some (.bool false) := hb2.cell rfl
        have fz : ∀ i, w2.frozen? ⟨w.heap.size, i, none⟩ = false := fun i => hz.frozen i
        have f0 := fz 0
        have f1 := fz 1
        have f2 := fz 2
        have f3 := fz 3
        have f4 := fz 4
        have f5 := fz 5
        have z0 : w2.cell? ⟨w.heap.size, 0, none⟩ = some (.int .u8 0) := hz.cell rfl
        have z1 : w2.cell? ⟨w.heap.size, 1, none⟩ = some (.bool false) := hz.cell rfl
        have z2 : w2.cell? ⟨w.heap.size, 2, none⟩ = some (.int .i64 0) := hz.cell rfl
        have z3 : w2.cell? ⟨w.heap.size, 3, none⟩ = some (.string (bs [])) := hz.cell rfl
        have z4 : w2.cell? ⟨w.heap.size, 4, none⟩ = some (.slice none 0 0) := hz.cell rfl
        have z5 : w2.cell? ⟨w.heap.size, 5, none⟩ = some (.slice none 0 0) := hz.cell rfl
        have hg2 := hb2.lt
        have hh2 := hz.lt
        have HZ := Lib.hid hz
        have HB2 := Lib.hid hb2
        have HR2 := Lib.hid hr2
        clear hb hrd hb2 hz hr2 fz
        clear f0 f1 f2 f3 f4 f5 z0 z1 z2 z3 z4 z5 c1
        have c1 : w2.cell? ⟨g, 1, none⟩ = some (.bool false) := HB2.out.cell rfl
        go_wp2_with fail
        go_at_call 49
        have hnl := numP_lt (l, false)
        refine (number_any B g 56 (l, false) w2 hBg HB2.out (show l.length ≤ 281474976710656 by omega)).mono ?_
        rintro e' w3 ⟨rfl, hb, hrd⟩
        generalize numP (l, false) = np at hb hRe hnl ⊢
        obtain ⟨n3, st3⟩ := np
        simp only [] at hb hRe hnl ⊢
        subst hRe
        have HZ3 := Lib.hid (hrd.blk HZ.out (by omega))
        have HR3 := Lib.hid (HR2.out.trans hrd)
        have HB3 := Lib.hid hb
        clear hb hrd c1
        have fz : ∀ i, w3.frozen? ⟨w.heap.size, i, none⟩ = false := fun i => HZ3.out.frozen i
        have f0 := fz 0
        have f1 := fz 1
        have f2 := fz 2
        have f3 := fz 3
        have f4 := fz 4
        have f5 := fz 5
        have z0 : w3.cell? ⟨w.heap.size, 0, none⟩ = some (.int .u8 0) := HZ3.out.cell rfl
        have z1 : w3.cell? ⟨w.heap.size, 1, none⟩ = some (.bool false) := HZ3.out.cell rfl
        have z2 : w3.cell? ⟨w.heap.size, 2, none⟩ = some (.int .i64 0) := HZ3.out.cell rfl
        have z3 : w3.cell? ⟨w.heap.size, 3, none⟩ = some (.string (bs [])) := HZ3.out.cell rfl
        have z4 : w3.cell? ⟨w.heap.size, 4, none⟩ = some (.slice none 0 0) := HZ3.out.cell rfl
        have z5 : w3.cell? ⟨w.heap.size, 5, none⟩ = some (.slice none 0 0) := HZ3.out.cell rfl
        clear fz
        go_wp2
        rw [zag_walk n3 hnl]
        exact rv_fin (r := (.mk 2 false (zagN n3) [] [] [], st3)) rfl HZ3.out (by omega) HB3.out HR3.out hBw (Nat.le_refl _) (fun w' _ => flat_has _ w' 2 (by decide) false _ (zagN_range n3 hnl).1 (zagN_range n3 hnl).2 [] (by decide))
      by_cases k4 : q = 4
      · skip
        have hRe : R = (.mk 3 false 0 (takeP (numP (l, false)).1 (numP (l, false)).2).1 [] [], (takeP (numP (l, false)).1 (numP (l, false)).2).2) := by
          rw [hR, valueP, if_neg (by decide)]
          (try simp only [])
          rw [if_neg (fun h => k0 (HB0q.out.1 h)), if_neg (fun h => k1 (HB1q.out.1 h)), if_neg (fun h => k2 (HB2q.out.1 h)), if_neg (fun h => k3 (HB3q.out.1 h)), if_pos (HB4q.out.2 k4)]
        clear hR
        have q0 : ((q : Int) == 0) = false := by simp; omega
        have q1 : ((q : Int) == 1) = false := by simp; omega
        have q2 : ((q : Int) == 2) = false := by simp; omega
        have q3 : ((q : Int) == 3) = false := by simp; omega
        have q4 : ((q : Int) == 4) = true := by simp; omega
        go_enter Tryd.func27, Tryd.ntmps27
        go_wp2_with fail
        go_at_call 48
        refine (take_any B g 56 1 (b :: l, false) _ hBg (HW.out _) (show (b :: l).length ≤ 281474976710656 by (try rw [List.length_cons]); omega) (by omega)).mono ?_
        rintro e' w2 ⟨he, hb, hrd⟩
        rw [show takeP 1 (b :: l, false) = ([b], (l, false)) by rw [takeP, if_neg (by simp)]; rfl] at he hb
        subst he
        have hb2 : IsBlk w2 g #[.string (bs l), .bool false] 56 := hb
        have hz := hrd.blk (IsBlk.new_at (by simp)) (by omega : w.heap.size ≠ g)
        have hr2 := (HRW.out _).trans hrd
        have c1 : w2.cell? ⟨g, 1, none⟩ = some (.bool false) := hb2.cell rfl
        have fz : ∀ i, w2.frozen? ⟨w.heap.size, i, none⟩ = false := fun i => hz.frozen i
        have f0 := fz 0
        have f1 := fz 1
        have f2 := fz 2
        have f3 := fz 3
        have f4 := fz 4
        have f5 := fz 5
        have z0 : w2.cell? ⟨w.heap.size, 0, none⟩ = some (.int .u8 0) := hz.cell rfl
        have z1 : w2.cell? ⟨w.heap.size, 1, none⟩ = some (.bool false) := hz.cell rfl
        have z2 : w2.cell? ⟨w.heap.size, 2, none⟩ = some (.int .i64 0) := hz.cell rfl
        have z3 : w2.cell? ⟨w.heap.size, 3, none⟩ = some (.string (bs [])) := hz.cell rfl
        have z4 : w2.cell? ⟨w.heap.size, 4, none⟩ = some (.slice none 0 0) := hz.cell rfl
        have z5 : w2.cell? ⟨w.heap.size, 5, none⟩ = some (.slice none 0 0) := hz.cell rfl
        have hg2 := hb2.lt
        have hh2 := hz.lt
        have HZ := Lib.hid hz
        have HB2 := Lib.hid hb2
        have HR2 := Lib.hid hr2
        clear hb hrd hb2 hz hr2 fz
        clear f0 f1 f2 f3 f4 f5 z0 z1 z2 z3 z4 z5 c1
        have c1 : w2.cell? ⟨g, 1, none⟩ = some (.bool false) := HB2.out.cell rfl
        go_upto_region 15 with (fail)
        refine mixW_start [7, 8, 9] (ClsG g w2) (by kernel_rfl) (ClsG.drew g w2) (fun hCw => ?_)
        refine mixW_flt (by kernel_rfl) [0, 1, 2, 3, 4, 5] 4 _ _ hCw (by kernel_rfl) ?_
        simp only [opsAt, List.map_cons, List.map_nil, List.toList_toArray, List.getD_cons_succ, List.getD_cons_zero]
        unfold ClsG
        repeat (go_big_quiet_step (fail))
        refine wpQuiet_nil ?_
        (try rw [← ClsG_def])
        refine mixW_ch (i := 6) (fuel := 3) (by kernel_rfl) _ rfl ?_
        go_wp2_with (go_at_call 49; refine (number_any B g 56 (l, false) _ hBg (HB2.out.drew) (show l.length ≤ 281474976710656 by omega)).mono ?_; rintro e' w3 ⟨rfl, hb, hrd⟩)
        refine ThenW.mk (hCw.trans (KeptG.of_rd hrd)) (fun hCw => ?_)
        refine mixW_end [7, 8, 9] (by kernel_rfl) ?_
        simp only [opsAt, List.map_cons, List.map_nil, List.toList_toArray, List.getD_cons_succ, List.getD_cons_zero]
        have hr3 := (HR2.out.trans (Rd.of_below ((Below.refl _ _).drew) (by omega))).trans hrd
        have hz3 := hrd.blk (HZ.out.drew) (by omega : w.heap.size ≠ g)
        have hnl := numP_lt (l, false)
        have hnn := numP_len (l, false)
        generalize numP (l, false) = np at hb hRe hnl hnn ⊢
        obtain ⟨n3, st3⟩ := np
        simp only [] at hb hRe hnl hnn ⊢
        have HR3 := Lib.hid hr3
        have HZ3 := Lib.hid hz3
        have HB3 := Lib.hid hb
        clear hb hrd hr3 hz3 hCw c1
        go_wp2_with fail
        go_at_call 48
        refine (take_any B g 56 n3 st3 w3 hBg HB3.out (by omega) hnl).mono ?_
        rintro e' w4 ⟨rfl, hb, hrd⟩
        have htl : (takeP n3 st3).1.length ≤ 1073741824 := by
          unfold takeP
          split
          · simp
          · simp only [List.length_take]; omega
        have HZ4 := Lib.hid (hrd.blk HZ3.out (by omega))
        have HR4 := Lib.hid (HR3.out.trans hrd)
        generalize takeP n3 st3 = tp at hb hRe htl ⊢
        obtain ⟨s4, st4⟩ := tp
        simp only [] at hb hRe htl ⊢
        subst hRe
        have HB4 := Lib.hid hb
        clear hb hrd
        have fz : ∀ i, w4.frozen? ⟨w.heap.size, i, none⟩ = false := fun i => HZ4.out.frozen i
        have f0 := fz 0
        have f1 := fz 1
        have f2 := fz 2
        have f3 := fz 3
        have f4 := fz 4
        have f5 := fz 5
        have z0 : w4.cell? ⟨w.heap.size, 0, none⟩ = some (.int .u8 0) := HZ4.out.cell rfl
        have z1 : w4.cell? ⟨w.heap.size, 1, none⟩ = some (.bool false) := HZ4.out.cell rfl
        have z2 : w4.cell? ⟨w.heap.size, 2, none⟩ = some (.int .i64 0) := HZ4.out.cell rfl
        have z3 : w4.cell? ⟨w.heap.size, 3, none⟩ = some (.string (bs [])) := HZ4.out.cell rfl
        have z4 : w4.cell? ⟨w.heap.size, 4, none⟩ = some (.slice none 0 0) := HZ4.out.cell rfl
        have z5 : w4.cell? ⟨w.heap.size, 5, none⟩ = some (.slice none 0 0) := HZ4.out.cell rfl
        clear fz
        go_wp2
        refine Calm.normal ?_
        go_wp2
        exact rv_fin (r := (.mk 3 false 0 s4 [] [], st4)) rfl HZ4.out (by omega) HB4.out HR4.out hBw (Nat.le_refl _) (fun w' _ => flat_has _ w' 3 (by decide) false 0 (by decide) (by decide) s4 htl)
      by_cases k5 : q = 5
      · skip
        have hRe : R = (.mk 4 false 0 (takeP (numP (l, false)).1 (numP (l, false)).2).1 [] [], (takeP (numP (l, false)).1 (numP (l, false)).2).2) := by
          rw [hR, valueP, if_neg (by decide)]
          (try simp only [])
          rw [if_neg (fun h => k0 (HB0q.out.1 h)), if_neg (fun h => k1 (HB1q.out.1 h)), if_neg (fun h => k2 (HB2q.out.1 h)), if_neg (fun h => k3 (HB3q.out.1 h)), if_neg (fun h => k4 (HB4q.out.1 h)), if_pos (HB5q.out.2 k5)]
        clear hR
        have q0 : ((q : Int) == 0) = false := by simp; omega
        have q1 : ((q : Int) == 1) = false := by simp; omega
        have q2 : ((q : Int) == 2) = false := by simp; omega
        have q3 : ((q : Int) == 3) = false := by simp; omega
        have q4 : ((q : Int) == 4) = false := by simp; omega
        have q5 : ((q : Int) == 5) = true := by simp; omega
        go_enter Tryd.func27, Tryd.ntmps27
        go_wp2_with fail
        go_at_call 48
        refine (take_any B g 56 1 (b :: l, false) _ hBg (HW.out _) (show (b :: l).length ≤ 281474976710656 by (try rw [List.length_cons]); omega) (by omega)).mono ?_
        rintro e' w2 ⟨he, hb, hrd⟩
        rw [show takeP 1 (b :: l, false) = ([b], (l, false)) by rw [takeP, if_neg (by simp)]; rfl] at he hb
        subst he
        have hb2 : IsBlk w2 g #[.string (bs l), .bool false] 56 := hb
        have hz := hrd.blk (IsBlk.new_at (by simp)) (by omega : w.heap.size ≠ g)
        have hr2 := (HRW.out _).trans hrd
        have c1 : w2.cell? ⟨g, 1, none⟩ = some (.bool false) := hb2.cell rfl
        have fz : ∀ i, w2.frozen? ⟨w.heap.size, i, none⟩ = false := fun i => hz.frozen i
        have f0 := fz 0
        have f1 := fz 1
        have f2 := fz 2
        have f3 := fz 3
        have f4 := fz 4
        have f5 := fz 5
        have z0 : w2.cell? ⟨w.heap.size, 0, none⟩ = some (.int .u8 0) := hz.cell rfl
        have z1 : w2.cell? ⟨w.heap.size, 1, none⟩ = some (.bool false) := hz.cell rfl
        have z2 : w2.cell? ⟨w.heap.size, 2, none⟩ = some (.int .i64 0) := hz.cell rfl
        have z3 : w2.cell? ⟨w.heap.size, 3, none⟩ = some (.string (bs [])) := hz.cell rfl
        have z4 : w2.cell? ⟨w.heap.size, 4, none⟩ = some (.slice none 0 0) := hz.cell rfl
        have z5 : w2.cell? ⟨w.heap.size, 5, none⟩ = some (.slice none 0 0) := hz.cell rfl
        have hg2 := hb2.lt
        have hh2 := hz.lt
        have HZ := Lib.hid hz
        have HB2 := Lib.hid hb2
        have HR2 := Lib.hid hr2
        clear hb hrd hb2 hz hr2 fz
        clear f0 f1 f2 f3 f4 f5 z0 z1 z2 z3 z4 z5 c1
        have c1 : w2.cell? ⟨g, 1, none⟩ = some (.bool false) := HB2.out.cell rfl
        go_upto_region 17 with (fail)
        refine mixW_start [7, 8, 9] (ClsG g w2) (by kernel_rfl) (ClsG.drew g w2) (fun hCw => ?_)
        refine mixW_flt (by kernel_rfl) [0, 1, 2, 3, 4, 5] 4 _ _ hCw (by kernel_rfl) ?_
        simp only [opsAt, List.map_cons, List.map_nil, List.toList_toArray, List.getD_cons_succ, List.getD_cons_zero]
        unfold ClsG
        repeat (go_big_quiet_step (fail))
        refine wpQuiet_nil ?_
        (try rw [← ClsG_def])
        refine mixW_ch (i := 6) (fuel := 3) (by kernel_rfl) _ rfl ?_
        go_wp2_with (go_at_call 49; refine (number_any B g 56 (l, false) _ hBg (HB2.out.drew) (show l.length ≤ 281474976710656 by omega)).mono ?_; rintro e' w3 ⟨rfl, hb, hrd⟩)
        refine ThenW.mk (hCw.trans (KeptG.of_rd hrd)) (fun hCw => ?_)
        refine mixW_end [7, 8, 9] (by kernel_rfl) ?_
        simp only [opsAt, List.map_cons, List.map_nil, List.toList_toArray, List.getD_cons_succ, List.getD_cons_zero]
        have hr3 := (HR2.out.trans (Rd.of_below ((Below.refl _ _).drew) (by omega))).trans hrd
        have hz3 := hrd.blk (HZ.out.drew) (by omega : w.heap.size ≠ g)
        have hnl := numP_lt (l, false)
        have hnn := numP_len (l, false)
        generalize numP (l, false) = np at hb hRe hnl hnn ⊢
        obtain ⟨n3, st3⟩ := np
        simp only [] at hb hRe hnl hnn ⊢
        have HR3 := Lib.hid hr3
        have HZ3 := Lib.hid hz3
        have HB3 := Lib.hid hb
        clear hb hrd hr3 hz3 hCw c1
        go_wp2_with fail
        go_at_call 48
        refine (take_any B g 56 n3 st3 w3 hBg HB3.out (by omega) hnl).mono ?_
        rintro e' w4 ⟨rfl, hb, hrd⟩
        have htl : (takeP n3 st3).1.length ≤ 1073741824 := by
          unfold takeP
          split
          · simp
          · simp only [List.length_take]; omega
        have HZ4 := Lib.hid (hrd.blk HZ3.out (by omega))
        have HR4 := Lib.hid (HR3.out.trans hrd)
        generalize takeP n3 st3 = tp at hb hRe htl ⊢
        obtain ⟨s4, st4⟩ := tp
        simp only [] at hb hRe htl ⊢
        subst hRe
        have HB4 := Lib.hid hb
        clear hb hrd
        have fz : ∀ i, w4.frozen? ⟨w.heap.size, i, none⟩ = false := fun i => HZ4.out.frozen i
        have f0 := fz 0
        have f1 := fz 1
        have f2 := fz 2
        have f3 := fz 3
        have f4 := fz 4
        have f5 := fz 5
        have z0 : w4.cell? ⟨w.heap.size, 0, none⟩ = some (.int .u8 0) := HZ4.out.cell rfl
        have z1 : w4.cell? ⟨w.heap.size, 1, none⟩ = some (.bool false) := HZ4.out.cell rfl
        have z2 : w4.cell? ⟨w.heap.size, 2, none⟩ = some (.int .i64 0) := HZ4.out.cell rfl
        have z3 : w4.cell? ⟨w.heap.size, 3, none⟩ = some (.string (bs [])) := HZ4.out.cell rfl
        have z4 : w4.cell? ⟨w.heap.size, 4, none⟩ = some (.slice none 0 0) := HZ4.out.cell rfl
        have z5 : w4.cell? ⟨w.heap.size, 5, none⟩ = some (.slice none 0 0) := HZ4.out.cell rfl
        clear fz
        go_wp2
        refine Calm.normal ?_
        go_wp2
        exact rv_fin (r := (.mk 4 false 0 s4 [] [], st4)) rfl HZ4.out (by omega) HB4.out HR4.out hBw (Nat.le_refl _) (fun w' _ => flat_has _ w' 4 (by decide) false 0 (by decide) (by decide) s4 htl)
      by_cases k6 : q = 6
      · skip
        have hRe : R = (.mk 5 false 0 [] (repN (valueP k) (manyP (l, false)).1 (manyP (l, false)).2).1 [], (repN (valueP k) (manyP (l, false)).1 (manyP (l, false)).2).2) := by
          rw [hR, valueP, if_neg (by decide)]
          (try simp only [])
          rw [if_neg (fun h => k0 (HB0q.out.1 h)), if_neg (fun h => k1 (HB1q.out.1 h)), if_neg (fun h => k2 (HB2q.out.1 h)), if_neg (fun h => k3 (HB3q.out.1 h)), if_neg (fun h => k4 (HB4q.out.1 h)), if_neg (fun h => k5 (HB5q.out.1 h)), if_pos (HB6q.out.2 k6)]
        clear hR
        have q0 : ((q : Int) == 0) = false := by simp; omega
        have q1 : ((q : Int) == 1) = false := by simp; omega
        have q2 : ((q : Int) == 2) = false := by simp; omega
        have q3 : ((q : Int) == 3) = false := by simp; omega
        have q4 : ((q : Int) == 4) = false := by simp; omega
        have q5 : ((q : Int) == 5) = false := by simp; omega
        have q6 : ((q : Int) == 6) = true := by simp; omega
        go_enter Tryd.func27, Tryd.ntmps27
        go_wp2_with fail
        go_at_call 48
        refine (take_any B g 56 1 (b :: l, false) _ hBg (HW.out _) (show (b :: l).length ≤ 281474976710656 by (try rw [List.length_cons]); omega) (by omega)).mono ?_
        rintro e' w2 ⟨he, hb, hrd⟩
        rw [show takeP 1 (b :: l, false) = ([b], (l, false)) by rw [takeP, if_neg (by simp)]; rfl] at he hb
        subst he
        have hb2 : IsBlk w2 g #[.string (bs l), .bool false] 56 := hb
        have hz := hrd.blk (IsBlk.new_at (by simp)) (by omega : w.heap.size ≠ g)
        have hr2 := (HRW.out _).trans hrd
        have c1 : w2.cell? ⟨g, 1, none⟩ = some (.bool false) := hb2.cell rfl
        have fz : ∀ i, w2.frozen? ⟨w.heap.size, i, none⟩ = false := fun i => hz.frozen i
        have f0 := fz 0
        have f1 := fz 1
        have f2 := fz 2
        have f3 := fz 3
        have f4 := fz 4
        have f5 := fz 5
        have z0 : w2.cell? ⟨w.heap.size, 0, none⟩ = some (.int .u8 0) := hz.cell rfl
        have z1 : w2.cell? ⟨w.heap.size, 1, none⟩ = some (.bool false) := hz.cell rfl
        have z2 : w2.cell? ⟨w.heap.size, 2, none⟩ = some (.int .i64 0) := hz.cell rfl
        have z3 : w2.cell? ⟨w.heap.size, 3, none⟩ = some (.string (bs [])) := hz.cell rfl
        have z4 : w2.cell? ⟨w.heap.size, 4, none⟩ = some (.slice none 0 0) := hz.cell rfl
        have z5 : w2.cell? ⟨w.heap.size, 5, none⟩ = some (.slice none 0 0) := hz.cell rfl
        have hg2 := hb2.lt
        have hh2 := hz.lt
        have HZ := Lib.hid hz
        have HB2 := Lib.hid hb2
        have HR2 := Lib.hid hr2
        clear hb hrd hb2 hz hr2 fz
        clear f0 f1 f2 f3 f4 f5 z0 z1 z2 z3 z4 z5 c1
        have c1 : w2.cell? ⟨g, 1, none⟩ = some (.bool false) := HB2.out.cell rfl
        go_upto_region 20 with (fail)
        generalize hW3 : World.alloc w2 _ = W3
        have hb3 : RdBlk W3 g 56 (l, false) := by rw [← hW3]; exact HB2.out.alloc _
        have hz3 : IsBlk W3 w.heap.size #[.int .u8 0, .bool false, .int .i64 0, .string (bs []), .slice none 0 0, .slice none 0 0] 26 := by rw [← hW3]; exact HZ.out.alloc _
        have hv3 : IsBlk W3 w2.heap.size #[.int .u8 5, .bool false, .int .i64 0, .string (bs []), .slice none 0 0, .slice none 0 0] 26 := by rw [← hW3]; exact IsBlk.new _ _ _
        have hr3 : Rd B g w W3 := by rw [← hW3]; exact HR2.out.alloc (by omega) _
        clear hW3 c1
        obtain ⟨h7, hh7⟩ : ∃ h7, h7 = w2.heap.size := ⟨_, rfl⟩
        rw [← hh7] at hv3 ⊢
        have hh7l : w.heap.size < h7 := by omega
        have hh7g : g < h7 := by omega
        clear hh7 HZ HB2 HR2 hg2 hh2
        have HB3 := Lib.hid hb3
        have HZ3 := Lib.hid hz3
        have HV3 := Lib.hid hv3
        have HR3 := Lib.hid hr3
        clear hb3 hz3 hv3 hr3
        go_wp2_with fail
        go_at_call 50
        have hml := manyP_len (l, false)
        have hmm := manyP_le (l, false)
        refine (many_any B g (l, false) W3 hBg HB3.out (show l.length ≤ 281474976710656 by omega)).mono ?_
        rintro e' w4 ⟨rfl, hb, hrd⟩
        generalize manyP (l, false) = mp at hb hRe hml hmm ⊢
        obtain ⟨m, st4⟩ := mp
        simp only [] at hb hRe hml hmm ⊢
        have hv4 := hrd.blk HV3.out (by omega)
        have hh4 := hv4.lt
        have HB4 := Lib.hid hb
        have HZ4 := Lib.hid (hrd.blk HZ3.out (by omega))
        have HV4 := Lib.hid hv4
        have HR4 := Lib.hid (HR3.out.trans hrd)
        clear hb hrd hv4 HB3 HZ3 HV3 HR3
        have hRl : R = (.mk 5 false 0 [] ([] ++ (repN (valueP k) m st4).1) [], (repN (valueP k) m st4).2) := by rw [hRe]; rfl
        have HRL := Lib.hid hRl
        clear hRe hRl
        go_wp2
        go_loopw [8] (fun i wr => ∃ (r : Nat) (vs : List DVal) (st : St) (lv : Value), i = .int .i64 r ∧ vs.length + r ≤ 64 ∧ IsBlk wr h7 #[.int .u8 5, .bool false, .int .i64 0, .string (bs []), lv, .slice none 0 0] 26 ∧ Acc HasVal (h7 + 1) 26 6 wr lv vs ∧ RdBlk wr g 56 st ∧ st.1.length ≤ 16384 ∧ IsBlk wr w.heap.size #[.int .u8 0, .bool false, .int .i64 0, .string (bs []), .slice none 0 0, .slice none 0 0] 26 ∧ Rd B g w wr ∧ R = (.mk 5 false 0 [] (vs ++ (repN (valueP k) r st).1) [], (repN (valueP k) r st).2)) (fun i _ => (intOf i).toNat)
        case atStart => exact ⟨m, [], st4, .slice none 0 0, rfl, by simpa using hmm, HV4.out, Acc.nil _ _ _, HB4.out, by omega, HZ4.out, HR4.out, HRL.out⟩
        case round =>
        clear HV4 HB4 HZ4 HR4 HRL hml hmm hh4
        obtain ⟨r, vs, ⟨lr, badr⟩, lv, rfl, hvr, hv7, hacc, hrb, hsl, hz7, hr7, hRR⟩ := hrel
        simp only [] at hsl
        have hb7 : IsBlk wr g #[.string (bs lr), .bool badr] 56 := hrb
        have c1 : wr.cell? ⟨g, 1, none⟩ = some (.bool badr) := hb7.cell rfl
        have hh7r := hv7.lt
        have hwr := hr7.2.1
        by_cases hgo : 0 < r ∧ badr = false
        · obtain ⟨hr0, hbad⟩ := hgo
          subst hbad
          obtain ⟨r, rfl⟩ : ∃ r', r = r' + 1 := ⟨r - 1, by omega⟩
          rw [repN_more] at hRR
          have hvl := valueP_len k (lr, false)
          simp only [] at hvl
          obtain ⟨p7, c7, hlv⟩ := hacc.slice
          subst hlv
          have hown := hacc.lt
          have c4 : wr.cell? ⟨h7, 4, none⟩ = some (.slice p7 vs.length c7) := hv7.cell rfl
          have hog : Og g wr h7 := ⟨hh7r, by omega⟩
          have HV7 := Lib.hid hv7
          have HAC := Lib.hid hacc
          have HB7 := Lib.hid hb7
          have HZ7 := Lib.hid hz7
          have HR7 := Lib.hid hr7
          have HRR := Lib.hid hRR
          have HOW := Lib.hid hown
          clear hv7 hacc hb7 hz7 hr7 hRR hown hrb
          have hrI : (0 : Int) < ((r + 1 : Nat) : Int) := by omega
          obtain ⟨r5, hr5⟩ : ∃ r5, r5 = valueP k (lr, false) := ⟨_, rfl⟩
          rw [← hr5] at HRR hvl
          have HR5 := Lib.hid hr5
          clear hr5
          go_upto_region 23 with (fail)
          refine mixW_start [7, 8, 9] (ClsG g wr) (by kernel_rfl) (ClsG.drew g wr) (fun hCw => ?_)
          refine mixW_flt (by kernel_rfl) [0, 1, 2, 3, 4] 5 _ _ hCw (by kernel_rfl) ?_
          simp only [opsAt, List.map_cons, List.map_nil, List.toList_toArray, List.getD_cons_succ, List.getD_cons_zero]
          unfold ClsG
          repeat (go_big_quiet_step (fail))
          refine wpQuiet_nil ?_
          (try rw [← ClsG_def])
          refine mixW_ch (i := 5) (fuel := 4) (by kernel_rfl) _ rfl ?_
          go_wp2_with (go_at_call 27; refine (IH.out (lr, false) (dI + 1) B g _ (by have := HD.out; omega) hBg (HB7.out.drew) (show lr.length ≤ 16384 by omega)).mono ?_; rintro e' w5 ⟨cs, rfl, hval, hrb5, hrd5⟩; rw [← HR5.out] at hval hrb5; obtain ⟨⟨k1, b1, n1, s1, l1, f1⟩, st5⟩ := r5; obtain ⟨pl1, cl1, pf1, cf1, hcs, hrest⟩ := hasVal_mk.1 hval; subst hcs)
          refine ThenW.mk (hCw.trans (KeptG.of_rd hrd5)) (fun hCw => ?_)
          refine mixW_ch (i := 6) (fuel := 3) (by kernel_rfl) _ rfl ?_
          go_wp2_with (fail)
          refine ThenW.mk (hCw.trans (KeptG.of_below ((Below.refl _ _).alloc (Nat.le_refl _) _))) (fun hCw => ?_)
          refine mixW_end [7, 8, 9] (by kernel_rfl) ?_
          simp only [opsAt, List.map_cons, List.map_nil, List.toList_toArray, List.getD_cons_succ, List.getD_cons_zero]
          have hrd : Rd B g wr w5 := (Rd.of_below ((Below.refl _ _).drew) (by omega)).trans hrd5
          have hs5 := hrd.2.1
          have hb6 : Below w5.heap.size w5 (w5.alloc (.cells #[.int .u8 (k1 : Int), .bool b1, .int .i64 n1, .string (bs s1), .slice pl1 l1.length cl1, .slice pf1 f1.length cf1] 26)) := (Below.refl _ _).alloc (Nat.le_refl _) _
          have hac6 := (HAC.out.kept relV (fun b hb hlt => hrd.2.2 b hlt (by omega))).kept relV (w' := w5.alloc (.cells #[.int .u8 (k1 : Int), .bool b1, .int .i64 n1, .string (bs s1), .slice pl1 l1.length cl1, .slice pf1 f1.length cf1] 26)) (fun b _ hlt => hb6.block b hlt)
          have hv6 := ((hrd.blk HV7.out (by omega)).ext hb6)
          have hz6 := ((hrd.blk HZ7.out (by omega)).ext hb6)
          have hrb6 : RdBlk _ g 56 st5 := IsBlk.ext hrb5 hb6
          have hr6 := (HR7.out.trans hrd).trans (Rd.of_below hb6 (by omega))
          have hy : HasVal (fun b => h7 + 1 ≤ b ∧ (Value.slice p7 vs.length c7).ownBlock ≠ some b) (w5.alloc (.cells #[.int .u8 (k1 : Int), .bool b1, .int .i64 n1, .string (bs s1), .slice pl1 l1.length cl1, .slice pf1 f1.length cf1] 26)) (.mk k1 b1 n1 s1 l1 f1) [.int .u8 (k1 : Int), .bool b1, .int .i64 n1, .string (bs s1), .slice pl1 l1.length cl1, .slice pf1 f1.length cf1] :=
            HasVal.ext_to (S := fun b => wr.heap.size ≤ b) hval (fun b hb => ⟨by omega, fun e => by have := (HOW.out b e).2; omega⟩) (fun b _ hlt => hb6.block b hlt)
          have HA6 := Lib.hid hac6
          have HV6 := Lib.hid hv6
          have HZ6 := Lib.hid hz6
          have HB6 := Lib.hid hrb6
          have HR6 := Lib.hid hr6
          have HY := Lib.hid hy
          have hvl2 : st5.1.length ≤ lr.length := hvl
          have HRS : Hid (R = (.mk 5 false 0 [] ((vs ++ [.mk k1 b1 n1 s1 l1 f1]) ++ (repN (valueP k) r st5).1) [], (repN (valueP k) r st5).2)) := Lib.hid (by rw [HRR.out]; simp)
          clear hac6 hv6 hz6 hrb6 hr6 hy hval hrb5 hrd5 hrd hrest hb6 hCw HAC HV7 HZ7 HR7 HB7 HR5 c4 c1 hvl
          refine push_acc relV (h7 + 1) rfl _ _ 23 26 (.agg #[.int .u8 0, .bool false, .int .i64 0, .string ⟨#[]⟩, .slice none 0 0, .slice none 0 0]) 80 rfl Tryd.underlying23 (by kernel_rfl) rfl (by decide) _ vs HA6.out w5.heap.size [.int .u8 (k1 : Int), .bool b1, .int .i64 n1, .string (bs s1), .slice pl1 l1.length cl1, .slice pf1 f1.length cf1] (.mk k1 b1 n1 s1 l1 f1) (IsBlk.new _ _ _) HY.out rfl rfl (by simp; omega) (by omega) (by unfold maxLen; omega) ?_
          intro g1 cap w7 hacc7 hg7 hB1 hor hlt7
          have hrow : ∀ j, (Value.slice p7 vs.length c7).ownBlock = some j → h7 + 1 ≤ j := fun j hj => (HA6.out.lt j hj).1
          have hv7 := blk_grown HV6.out hg7 (fun e => by have := hrow _ e; omega)
          have hz7 := blk_grown HZ6.out hg7 (fun e => by have := hrow _ e; omega)
          have hb7 : IsBlk w7 g #[.string (bs st5.1), .bool st5.2] 56 := blk_grown HB6.out hg7 (fun e => by have := hrow _ e; omega)
          have hr7 := HR6.out.grown hg7 (by omega) (fun j hj => by have := hrow j hj; omega)
          have f7 : w7.frozen? ⟨h7, 4, none⟩ = false := hv7.frozen 4
          have d7 : w7.cell? ⟨h7, 4, none⟩ = some (.slice p7 vs.length c7) := hv7.cell rfl
          have hacs : Acc HasVal (h7 + 1) 26 6 (w7.setCell ⟨h7, 4, none⟩ (.slice (some ⟨g1, 0, none⟩) (vs.length + 1) cap)) (.slice (some ⟨g1, 0, none⟩) (vs.length + 1) cap) (vs ++ [.mk k1 b1 n1 s1 l1 f1]) :=
            hacc7.kept relV (fun b hb _ => Below.heap_setCell _ _ _ _ (show b ≠ h7 by omega))
          have hvs := hv7.set 4 (.slice (some ⟨g1, 0, none⟩) (vs.length + 1) cap)
          have hzs := hz7.set_other (a := ⟨h7, 4, none⟩) (show h7 ≠ w.heap.size by omega) (.slice (some ⟨g1, 0, none⟩) (vs.length + 1) cap)
          have hbs := hb7.set_other (a := ⟨h7, 4, none⟩) (show h7 ≠ g by omega) (.slice (some ⟨g1, 0, none⟩) (vs.length + 1) cap)
          have hrs := hr7.setN (b := h7) (o := 4) hBw (by omega) (.slice (some ⟨g1, 0, none⟩) (vs.length + 1) cap)
          have HAS := Lib.hid hacs
          have HVS := Lib.hid hvs
          have HZS := Lib.hid hzs
          have HBS := Lib.hid hbs
          have HRS2 := Lib.hid hrs
          clear hacs hvs hzs hbs hrs hacc7 hg7 hv7 hz7 hb7 hr7 hrow hor
          go_wp2
          refine Calm.normal ?_
          go_wp2
          go_roundw
          case rel => exact ⟨r, vs ++ [.mk k1 b1 n1 s1 l1 f1], st5, .slice (some ⟨g1, 0, none⟩) (vs.length + 1) cap, by go_num, by simp; omega, by simpa using HVS.out, HAS.out, HBS.out, by omega, HZS.out, HRS2.out, HRS.out⟩
          case measure => simp [intOf]
        · have hRE : R = (.mk 5 false 0 [] vs [], (lr, badr)) := by
            rw [hRR]
            cases badr
            · have : r = 0 := by
                rcases Nat.eq_zero_or_pos r with h | h
                · exact h
                · exact absurd ⟨h, rfl⟩ hgo
              subst this
              rw [repN_zero]
              simp
            · rw [repN_bad]
              simp
          subst hRE
          obtain ⟨p7, c7, hlv⟩ := hacc.slice
          subst hlv
          have hvl : vs.length ≤ 64 := by omega
          have hfin : ∀ w', (∀ b, b ≠ w.heap.size → w'.heap[b]? = wr.heap[b]?) → HasVal (fun b => w.heap.size ≤ b) w' (.mk 5 false 0 [] vs []) [.int .u8 5, .bool false, .int .i64 0, .string (bs []), .slice p7 vs.length c7, .slice none 0 0] := by
            intro w' hw'
            obtain ⟨p, c, hpc, h1, h2, hcl⟩ := (hacc.kept relV (w' := w') (fun b hb _ => hw' b (by omega))).cells relV (S := fun b => w.heap.size ≤ b) (fun b hb => by omega)
            injection hpc with e1 _ e2
            subst e1
            subst e2
            refine hasVal_mk.2 ⟨p7, c7, none, 0, rfl, ⟨by decide, by decide, by decide, by simp, by omega, by simp, h1, h2, by simp, by unfold maxLen; omega⟩, fun i hi => ?_, fun i hi => by simp at hi⟩
            obtain ⟨gg, cs, e1, e2, e3⟩ := hcl i hi
            exact ⟨gg, 0, cs, e1, e2, e3⟩
          have HFIN := Lib.hid hfin
          have hcond : ((r : Int) ≤ 0) ∨ ((0 : Int) < (r : Int) ∧ badr = true) := by
            rcases Nat.eq_zero_or_pos r with h | h
            · exact Or.inl (by omega)
            · refine Or.inr ⟨by omega, ?_⟩
              cases badr
              · exact absurd ⟨h, rfl⟩ hgo
              · rfl
          have d0 : wr.cell? ⟨h7, 0, none⟩ = some (.int .u8 5) := hv7.cell rfl
          have d1 : wr.cell? ⟨h7, 1, none⟩ = some (.bool false) := hv7.cell rfl
          have d2 : wr.cell? ⟨h7, 2, none⟩ = some (.int .i64 0) := hv7.cell rfl
          have d3 : wr.cell? ⟨h7, 3, none⟩ = some (.string (bs [])) := hv7.cell rfl
          have d4 : wr.cell? ⟨h7, 4, none⟩ = some (.slice p7 vs.length c7) := hv7.cell rfl
          have d5 : wr.cell? ⟨h7, 5, none⟩ = some (.slice none 0 0) := hv7.cell rfl
          have HZZ := Lib.hid hz7
          have HBB := Lib.hid hb7
          have HRR2 := Lib.hid hr7
          clear hgo hfin hacc hv7 hz7 hb7 hr7 hrb hRR
          have fz : ∀ i, wr.frozen? ⟨w.heap.size, i, none⟩ = false := fun i => HZZ.out.frozen i
          have f0 := fz 0
          have f1 := fz 1
          have f2 := fz 2
          have f3 := fz 3
          have f4 := fz 4
          have f5 := fz 5
          have z0 : wr.cell? ⟨w.heap.size, 0, none⟩ = some (.int .u8 0) := HZZ.out.cell rfl
          have z1 : wr.cell? ⟨w.heap.size, 1, none⟩ = some (.bool false) := HZZ.out.cell rfl
          have z2 : wr.cell? ⟨w.heap.size, 2, none⟩ = some (.int .i64 0) := HZZ.out.cell rfl
          have z3 : wr.cell? ⟨w.heap.size, 3, none⟩ = some (.string (bs [])) := HZZ.out.cell rfl
          have z4 : wr.cell? ⟨w.heap.size, 4, none⟩ = some (.slice none 0 0) := HZZ.out.cell rfl
          have z5 : wr.cell? ⟨w.heap.size, 5, none⟩ = some (.slice none 0 0) := HZZ.out.cell rfl
          clear fz
          rcases hcond with hcond | ⟨hcond, hcond2⟩
          · go_wp2
            exact rv_fin (r := (.mk 5 false 0 [] vs [], (lr, badr))) rfl HZZ.out (by omega) HBB.out HRR2.out hBw (Nat.le_refl _) HFIN.out
          · subst hcond2
            go_wp2
            exact rv_fin (r := (.mk 5 false 0 [] vs [], (lr, true))) rfl HZZ.out (by omega) HBB.out HRR2.out hBw (Nat.le_refl _) HFIN.out
      by_cases k7 : q = 7
      · skip
        have hRe : R = (.mk 6 false 0 [] [] (repN (fieldP (valueP k)) (manyP (l, false)).1 (manyP (l, false)).2).1, (repN (fieldP (valueP k)) (manyP (l, false)).1 (manyP (l, false)).2).2) := by
          rw [hR, valueP, if_neg (by decide)]
          (try simp only [])
          rw [if_neg (fun h => k0 (HB0q.out.1 h)), if_neg (fun h => k1 (HB1q.out.1 h)), if_neg (fun h => k2 (HB2q.out.1 h)), if_neg (fun h => k3 (HB3q.out.1 h)), if_neg (fun h => k4 (HB4q.out.1 h)), if_neg (fun h => k5 (HB5q.out.1 h)), if_neg (fun h => k6 (HB6q.out.1 h)), if_pos (HB7q.out.2 k7)]
        clear hR
        have q0 : ((q : Int) == 0) = false := by simp; omega
        have q1 : ((q : Int) == 1) = false := by simp; omega
        have q2 : ((q : Int) == 2) = false := by simp; omega
        have q3 : ((q : Int) == 3) = false := by simp; omega
        have q4 : ((q : Int) == 4) = false := by simp; omega
        have q5 : ((q : Int) == 5) = false := by simp; omega
        have q6 : ((q : Int) == 6) = false := by simp; omega
        have q7 : ((q : Int) == 7) = true := by simp; omega
        go_enter Tryd.func27, Tryd.ntmps27
        go_wp2_with fail
        go_at_call 48
        refine (take_any B g 56 1 (b :: l, false) _ hBg (HW.out _) (show (b :: l).length ≤ 281474976710656 by (try rw [List.length_cons]); omega) (by omega)).mono ?_
        rintro e' w2 ⟨he, hb, hrd⟩
        rw [show takeP 1 (b :: l, false) = ([b], (l, false)) by rw [takeP, if_neg (by simp)]; rfl] at he hb
        subst he
        have hb2 : IsBlk w2 g #[.string (bs l), .bool false] 56 := hb
        have hz := hrd.blk (IsBlk.new_at (by simp)) (by omega : w.heap.size ≠ g)
        have hr2 := (HRW.out _).trans hrd
        have c1 : w2.cell? ⟨g, 1, none⟩ = some (.bool false) := hb2.cell rfl
        have fz : ∀ i, w2.frozen? ⟨w.heap.size, i, none⟩ = false := fun i => hz.frozen i
        have f0 := fz 0
        have f1 := fz 1
        have f2 := fz 2
        have f3 := fz 3
        have f4 := fz 4
        have f5 := fz 5
        have z0 : w2.cell? ⟨w.heap.size, 0, none⟩ = some (.int .u8 0) := hz.cell rfl
        have z1 : w2.cell? ⟨w.heap.size, 1, none⟩ = some (.bool false) := hz.cell rfl
        have z2 : w2.cell? ⟨w.heap.size, 2, none⟩ = some (.int .i64 0) := hz.cell rfl
        have z3 : w2.cell? ⟨w.heap.size, 3, none⟩ = some (.string (bs [])) := hz.cell rfl
        have z4 : w2.cell? ⟨w.heap.size, 4, none⟩ = some (.slice none 0 0) := hz.cell rfl
        have z5 : w2.cell? ⟨w.heap.size, 5, none⟩ = some (.slice none 0 0) := hz.cell rfl
        have hg2 := hb2.lt
        have hh2 := hz.lt
        have HZ := Lib.hid hz
        have HB2 := Lib.hid hb2
        have HR2 := Lib.hid hr2
        clear hb hrd hb2 hz hr2 fz
        clear f0 f1 f2 f3 f4 f5 z0 z1 z2 z3 z4 z5 c1
        have c1 : w2.cell? ⟨g, 1, none⟩ = some (.bool false) := HB2.out.cell rfl
        go_upto_region 27 with (fail)
        generalize hW3 : World.alloc w2 _ = W3
        have hb3 : RdBlk W3 g 56 (l, false) := by rw [← hW3]; exact HB2.out.alloc _
        have hz3 : IsBlk W3 w.heap.size #[.int .u8 0, .bool false, .int .i64 0, .string (bs []), .slice none 0 0, .slice none 0 0] 26 := by rw [← hW3]; exact HZ.out.alloc _
        have hv3 : IsBlk W3 w2.heap.size #[.int .u8 6, .bool false, .int .i64 0, .string (bs []), .slice none 0 0, .slice none 0 0] 26 := by rw [← hW3]; exact IsBlk.new _ _ _
        have hr3 : Rd B g w W3 := by rw [← hW3]; exact HR2.out.alloc (by omega) _
        clear hW3 c1
        obtain ⟨h7, hh7⟩ : ∃ h7, h7 = w2.heap.size := ⟨_, rfl⟩
        rw [← hh7] at hv3 ⊢
        have hh7l : w.heap.size < h7 := by omega
        have hh7g : g < h7 := by omega
        clear hh7 HZ HB2 HR2 hg2 hh2
        have HB3 := Lib.hid hb3
        have HZ3 := Lib.hid hz3
        have HV3 := Lib.hid hv3
        have HR3 := Lib.hid hr3
        clear hb3 hz3 hv3 hr3
        go_wp2_with fail
        go_at_call 50
        have hml := manyP_len (l, false)
        have hmm := manyP_le (l, false)
        refine (many_any B g (l, false) W3 hBg HB3.out (show l.length ≤ 281474976710656 by omega)).mono ?_
        rintro e' w4 ⟨rfl, hb, hrd⟩
        generalize manyP (l, false) = mp at hb hRe hml hmm ⊢
        obtain ⟨m, st4⟩ := mp
        simp only [] at hb hRe hml hmm ⊢
        have hv4 := hrd.blk HV3.out (by omega)
        have hh4 := hv4.lt
        have HB4 := Lib.hid hb
        have HZ4 := Lib.hid (hrd.blk HZ3.out (by omega))
        have HV4 := Lib.hid hv4
        have HR4 := Lib.hid (HR3.out.trans hrd)
        clear hb hrd hv4 HB3 HZ3 HV3 HR3
        have hRl : R = (.mk 6 false 0 [] [] ([] ++ (repN (fieldP (valueP k)) m st4).1), (repN (fieldP (valueP k)) m st4).2) := by rw [hRe]; rfl
        have HRL := Lib.hid hRl
        clear hRe hRl
        go_wp2
        go_loopw [10] (fun i wr => ∃ (r : Nat) (vs : List (List UInt8 × DVal)) (st : St) (lv : Value), i = .int .i64 r ∧ vs.length + r ≤ 64 ∧ IsBlk wr h7 #[.int .u8 6, .bool false, .int .i64 0, .string (bs []), .slice none 0 0, lv] 26 ∧ Acc HasFld (h7 + 1) 61 7 wr lv vs ∧ RdBlk wr g 56 st ∧ st.1.length ≤ 16384 ∧ IsBlk wr w.heap.size #[.int .u8 0, .bool false, .int .i64 0, .string (bs []), .slice none 0 0, .slice none 0 0] 26 ∧ Rd B g w wr ∧ R = (.mk 6 false 0 [] [] (vs ++ (repN (fieldP (valueP k)) r st).1), (repN (fieldP (valueP k)) r st).2)) (fun i _ => (intOf i).toNat)
        case atStart => exact ⟨m, [], st4, .slice none 0 0, rfl, by simpa using hmm, HV4.out, Acc.nil _ _ _, HB4.out, by omega, HZ4.out, HR4.out, HRL.out⟩
        case round =>
        clear HV4 HB4 HZ4 HR4 HRL hml hmm hh4
        obtain ⟨r, vs, ⟨lr, badr⟩, lv, rfl, hvr, hv7, hacc, hrb, hsl, hz7, hr7, hRR⟩ := hrel
        simp only [] at hsl
        have hb7 : IsBlk wr g #[.string (bs lr), .bool badr] 56 := hrb
        have c1 : wr.cell? ⟨g, 1, none⟩ = some (.bool badr) := hb7.cell rfl
        have hh7r := hv7.lt
        have hwr := hr7.2.1
        by_cases hgo : 0 < r ∧ badr = false
        · obtain ⟨hr0, hbad⟩ := hgo
          subst hbad
          obtain ⟨r, rfl⟩ : ∃ r', r = r' + 1 := ⟨r - 1, by omega⟩
          rw [repN_more] at hRR
          obtain ⟨n5, st5, hnp⟩ : ∃ n5 st5, numP (lr, false) = (n5, st5) := ⟨_, _, rfl⟩
          obtain ⟨x5, st6, htp⟩ : ∃ x5 st6, takeP n5 st5 = (x5, st6) := ⟨_, _, rfl⟩
          obtain ⟨v7, st7, hvp⟩ : ∃ v7 st7, valueP k st6 = (v7, st7) := ⟨_, _, rfl⟩
          have hfp : fieldP (valueP k) (lr, false) = ((x5, v7), st7) := by simp only [fieldP, hnp, htp, hvp]
          rw [hfp] at hRR
          have hn5 := numP_lt (lr, false)
          have hl5 := numP_len (lr, false)
          have hl6 := takeP_len n5 st5
          have hl7 := valueP_len k st6
          have hx5 : x5.length ≤ st5.1.length := by
            have : x5 = (takeP n5 st5).1 := by rw [htp]
            rw [this, takeP]
            split
            · simp
            · simp only [List.length_take]; omega
          rw [hnp] at hn5 hl5
          rw [htp] at hl6
          rw [hvp] at hl7
          simp only [] at hn5 hl5 hl6 hl7
          have HNP := Lib.hid hnp
          have HTP := Lib.hid htp
          have HVP := Lib.hid hvp
          clear hnp htp hvp hfp
          obtain ⟨p7, c7, hlv⟩ := hacc.slice
          subst hlv
          have hown := hacc.lt
          have HV7 := Lib.hid hv7
          have HAC := Lib.hid hacc
          have HB7 := Lib.hid hb7
          have HZ7 := Lib.hid hz7
          have HR7 := Lib.hid hr7
          have HRR := Lib.hid hRR
          have HOW := Lib.hid hown
          clear hv7 hacc hb7 hz7 hr7 hRR hown hrb
          have hrI : (0 : Int) < ((r + 1 : Nat) : Int) := by omega
          go_upto_region 30 with (fail)
          refine mixW_start [] (ClsG g wr) (by kernel_rfl) (ClsG.drew g wr) (fun hCw => ?_)
          refine mixW_flt (by kernel_rfl) [0, 1, 2, 3, 4, 5] 3 _ _ hCw (by kernel_rfl) ?_
          simp only [opsAt, List.map_cons, List.map_nil, List.toList_toArray, List.getD_cons_succ, List.getD_cons_zero]
          unfold ClsG
          repeat (go_big_quiet_step (fail))
          refine wpQuiet_nil ?_
          (try rw [← ClsG_def])
          refine mixW_ch (i := 6) (fuel := 2) (by kernel_rfl) _ rfl ?_
          go_wp2_with (go_at_call 49; refine (number_any B g 56 (lr, false) _ hBg (HB7.out.drew) (show lr.length ≤ 281474976710656 by omega)).mono ?_; rintro e' w5 ⟨he5, hrb5, hrd5⟩; rw [HNP.out] at he5 hrb5; subst he5)
          refine ThenW.mk (hCw.trans (KeptG.of_rd hrd5)) (fun hCw => ?_)
          refine mixW_ch (i := 7) (fuel := 1) (by kernel_rfl) _ rfl ?_
          go_wp2_with (go_at_call 48; refine (take_any B g 56 n5 st5 w5 hBg hrb5 (by omega) hn5).mono ?_; rintro e' w6 ⟨he6, hrb6, hrd6⟩; rw [HTP.out] at he6 hrb6; subst he6)
          refine ThenW.mk (hCw.trans (KeptG.of_rd hrd6)) (fun hCw => ?_)
          refine mixW_flt (by kernel_rfl) [8] 0 _ _ hCw (by kernel_rfl) ?_
          simp only [opsAt, List.map_cons, List.map_nil, List.toList_toArray, List.getD_cons_succ, List.getD_cons_zero]
          unfold ClsG
          repeat (go_big_quiet_step (fail))
          refine wpQuiet_nil ?_
          (try rw [← ClsG_def])
          refine mixW_end [] (by kernel_rfl) ?_
          refine wpList_nil ?_
          refine Calm.normal ?_
          have hrd : Rd B g wr w6 := ((Rd.of_below ((Below.refl _ _).drew) (by omega)).trans hrd5).trans hrd6
          have hs6 := hrd.2.1
          have hrbX : IsBlk w6 g #[.string (bs st6.1), .bool st6.2] 56 := hrb6
          have hvX := hrd.blk HV7.out (by omega)
          have hzX := hrd.blk HZ7.out (by omega)
          have haX := HAC.out.kept relF (w' := w6) (fun b hb hlt => hrd.2.2 b hlt (by omega))
          have hrX := HR7.out.trans hrd
          have hog : Og g w6 h7 := ⟨by omega, by omega⟩
          clear hCw hrb5 hrd5 hrb6 hrd6 c1 HV7 HAC HZ7 HR7 HB7
          have c4 : w6.cell? ⟨h7, 5, none⟩ = some (.slice p7 vs.length c7) := hvX.cell rfl
          have hw6 := hrX.2.1
          have HRX := Lib.hid hrX
          have HBX := Lib.hid hrbX
          have HVX := Lib.hid hvX
          have HZX := Lib.hid hzX
          have HAX := Lib.hid haX
          have HOX : Hid (∀ k, (Value.slice p7 vs.length c7).ownBlock = some k → h7 + 1 ≤ k ∧ k < w6.heap.size) := Lib.hid (fun k hk => by have := HOW.out k hk; omega)
          clear hrX hrbX hvX hzX haX hrd HOW
          go_upto_region 31 with (fail)
          refine mixW_start [9, 10, 11] (ClsG g w6) (by kernel_rfl) (ClsG.drew g w6) (fun hCw => ?_)
          refine mixW_flt (by kernel_rfl) [0, 1, 2, 3, 4, 5] 6 _ _ hCw (by kernel_rfl) ?_
          simp only [opsAt, List.map_cons, List.map_nil, List.toList_toArray, List.getD_cons_succ, List.getD_cons_zero]
          unfold ClsG
          repeat (go_big_quiet_step (fail))
          refine wpQuiet_nil ?_
          (try rw [← ClsG_def])
          refine mixW_ch (i := 6) (fuel := 5) (by kernel_rfl) _ rfl ?_
          go_wp2_with (go_at_call 27; refine (IH.out st6 (dI + 1) B g _ (by have := HD.out; omega) hBg (HBX.out.drew) (by omega)).mono ?_; rintro e' w8 ⟨cs, rfl, hval, hrb8, hrd8⟩; rw [HVP.out] at hval hrb8; obtain ⟨k1, b1, n1, s1, l1, f1⟩ := v7; obtain ⟨pl1, cl1, pf1, cf1, hcs, hrest⟩ := hasVal_mk.1 hval; subst hcs)
          refine ThenW.mk (hCw.trans (KeptG.of_rd hrd8)) (fun hCw => ?_)
          refine mixW_ch (i := 7) (fuel := 4) (by kernel_rfl) _ rfl ?_
          go_wp2_with (fail)
          refine ThenW.mk (hCw) (fun hCw => ?_)
          refine mixW_ch (i := 8) (fuel := 3) (by kernel_rfl) _ rfl ?_
          go_wp2_with (fail)
          refine ThenW.mk (hCw.trans (KeptG.of_below ((Below.refl _ _).alloc (Nat.le_refl _) _))) (fun hCw => ?_)
          refine mixW_end [9, 10, 11] (by kernel_rfl) ?_
          simp only [opsAt, List.map_cons, List.map_nil, List.toList_toArray, List.getD_cons_succ, List.getD_cons_zero]
          have hrd : Rd B g w6 w8 := (Rd.of_below ((Below.refl _ _).drew) (by omega)).trans hrd8
          have hs8 := hrd.2.1
          have hb9 : Below w8.heap.size w8 (w8.alloc (.cells #[.string (bs x5), .int .u8 (k1 : Int), .bool b1, .int .i64 n1, .string (bs s1), .slice pl1 l1.length cl1, .slice pf1 f1.length cf1] 61)) := (Below.refl _ _).alloc (Nat.le_refl _) _
          have hac9 := (HAX.out.kept relF (fun b hb hlt => hrd.2.2 b hlt (by omega))).kept relF (w' := w8.alloc (.cells #[.string (bs x5), .int .u8 (k1 : Int), .bool b1, .int .i64 n1, .string (bs s1), .slice pl1 l1.length cl1, .slice pf1 f1.length cf1] 61)) (fun b _ hlt => hb9.block b hlt)
          have hv9 := ((hrd.blk HVX.out (by omega)).ext hb9)
          have hz9 := ((hrd.blk HZX.out (by omega)).ext hb9)
          have hrb9 : RdBlk _ g 56 st7 := IsBlk.ext hrb8 hb9
          have hr9 := (HRX.out.trans hrd).trans (Rd.of_below hb9 (by omega))
          have hy0 : HasVal (fun b => h7 + 1 ≤ b ∧ (Value.slice p7 vs.length c7).ownBlock ≠ some b) (w8.alloc (.cells #[.string (bs x5), .int .u8 (k1 : Int), .bool b1, .int .i64 n1, .string (bs s1), .slice pl1 l1.length cl1, .slice pf1 f1.length cf1] 61)) (.mk k1 b1 n1 s1 l1 f1) [.int .u8 (k1 : Int), .bool b1, .int .i64 n1, .string (bs s1), .slice pl1 l1.length cl1, .slice pf1 f1.length cf1] :=
            HasVal.ext_to (S := fun b => w6.heap.size ≤ b) hval (fun b hb => ⟨by omega, fun e => by have := (HOX.out b e).2; omega⟩) (fun b _ hlt => hb9.block b hlt)
          have hy : HasFld (fun b => h7 + 1 ≤ b ∧ (Value.slice p7 vs.length c7).ownBlock ≠ some b) (w8.alloc (.cells #[.string (bs x5), .int .u8 (k1 : Int), .bool b1, .int .i64 n1, .string (bs s1), .slice pl1 l1.length cl1, .slice pf1 f1.length cf1] 61)) (x5, .mk k1 b1 n1 s1 l1 f1) [.string (bs x5), .int .u8 (k1 : Int), .bool b1, .int .i64 n1, .string (bs s1), .slice pl1 l1.length cl1, .slice pf1 f1.length cf1] := ⟨_, rfl, (by show x5.length ≤ 1073741824; omega), hy0⟩
          have HA6 := Lib.hid hac9
          have HV6 := Lib.hid hv9
          have HZ6 := Lib.hid hz9
          have HB6 := Lib.hid hrb9
          have HR6 := Lib.hid hr9
          have HY := Lib.hid hy
          have HRS : Hid (R = (.mk 6 false 0 [] [] ((vs ++ [(x5, .mk k1 b1 n1 s1 l1 f1)]) ++ (repN (fieldP (valueP k)) r st7).1), (repN (fieldP (valueP k)) r st7).2)) := Lib.hid (by rw [HRR.out]; simp)
          clear hac9 hv9 hz9 hrb9 hr9 hy hy0 hval hrb8 hrd8 hrd hrest hb9 hCw HAX HVX HZX HRX HBX c4
          refine push_acc relF (h7 + 1) rfl _ _ 24 61 (.agg #[.string ⟨#[]⟩, .int .u8 0, .bool false, .int .i64 0, .string ⟨#[]⟩, .slice none 0 0, .slice none 0 0]) 96 rfl Tryd.underlying24 (by kernel_rfl) rfl (by decide) _ vs HA6.out w8.heap.size [.string (bs x5), .int .u8 (k1 : Int), .bool b1, .int .i64 n1, .string (bs s1), .slice pl1 l1.length cl1, .slice pf1 f1.length cf1] (x5, .mk k1 b1 n1 s1 l1 f1) (IsBlk.new _ _ _) HY.out rfl rfl (by simp; omega) (by omega) (by unfold maxLen; omega) ?_
          intro g1 cap wn hacc7 hg7 hB1 hor hlt7
          have hrow : ∀ j, (Value.slice p7 vs.length c7).ownBlock = some j → h7 + 1 ≤ j := fun j hj => (HA6.out.lt j hj).1
          have hv7 := blk_grown HV6.out hg7 (fun e => by have := hrow _ e; omega)
          have hz7 := blk_grown HZ6.out hg7 (fun e => by have := hrow _ e; omega)
          have hb7 : IsBlk wn g #[.string (bs st7.1), .bool st7.2] 56 := blk_grown HB6.out hg7 (fun e => by have := hrow _ e; omega)
          have hr7 := HR6.out.grown hg7 (by omega) (fun j hj => by have := hrow j hj; omega)
          have f7 : wn.frozen? ⟨h7, 5, none⟩ = false := hv7.frozen 5
          have d7 : wn.cell? ⟨h7, 5, none⟩ = some (.slice p7 vs.length c7) := hv7.cell rfl
          have hacs : Acc HasFld (h7 + 1) 61 7 (wn.setCell ⟨h7, 5, none⟩ (.slice (some ⟨g1, 0, none⟩) (vs.length + 1) cap)) (.slice (some ⟨g1, 0, none⟩) (vs.length + 1) cap) (vs ++ [(x5, .mk k1 b1 n1 s1 l1 f1)]) :=
            hacc7.kept relF (fun b hb _ => Below.heap_setCell _ _ _ _ (show b ≠ h7 by omega))
          have hvs := hv7.set 5 (.slice (some ⟨g1, 0, none⟩) (vs.length + 1) cap)
          have hzs := hz7.set_other (a := ⟨h7, 5, none⟩) (show h7 ≠ w.heap.size by omega) (.slice (some ⟨g1, 0, none⟩) (vs.length + 1) cap)
          have hbs := hb7.set_other (a := ⟨h7, 5, none⟩) (show h7 ≠ g by omega) (.slice (some ⟨g1, 0, none⟩) (vs.length + 1) cap)
          have hrs := hr7.setN (b := h7) (o := 5) hBw (by omega) (.slice (some ⟨g1, 0, none⟩) (vs.length + 1) cap)
          have HAS := Lib.hid hacs
          have HVS := Lib.hid hvs
          have HZS := Lib.hid hzs
          have HBS := Lib.hid hbs
          have HRS2 := Lib.hid hrs
          clear hacs hvs hzs hbs hrs hacc7 hg7 hv7 hz7 hb7 hr7 hrow hor
          go_wp2
          refine Calm.normal ?_
          go_wp2
          go_roundw
          case rel => exact ⟨r, vs ++ [(x5, .mk k1 b1 n1 s1 l1 f1)], st7, .slice (some ⟨g1, 0, none⟩) (vs.length + 1) cap, by go_num, by simp; omega, by simpa using HVS.out, HAS.out, HBS.out, by omega, HZS.out, HRS2.out, HRS.out⟩
          case measure => simp [intOf]
        · have hRE : R = (.mk 6 false 0 [] [] vs, (lr, badr)) := by
            rw [hRR]
            cases badr
            · have : r = 0 := by
                rcases Nat.eq_zero_or_pos r with h | h
                · exact h
                · exact absurd ⟨h, rfl⟩ hgo
              subst this
              rw [repN_zero]
              simp
            · rw [repN_bad]
              simp
          subst hRE
          obtain ⟨p7, c7, hlv⟩ := hacc.slice
          subst hlv
          have hvl : vs.length ≤ 64 := by omega
          have hfin : ∀ w', (∀ b, b ≠ w.heap.size → w'.heap[b]? = wr.heap[b]?) → HasVal (fun b => w.heap.size ≤ b) w' (.mk 6 false 0 [] [] vs) [.int .u8 6, .bool false, .int .i64 0, .string (bs []), .slice none 0 0, .slice p7 vs.length c7] := by
            intro w' hw'
            obtain ⟨p, c, hpc, h1, h2, hcl⟩ := (hacc.kept relF (w' := w') (fun b hb _ => hw' b (by omega))).cells relF (S := fun b => w.heap.size ≤ b) (fun b hb => by omega)
            injection hpc with e1 _ e2
            subst e1
            subst e2
            refine hasVal_mk.2 ⟨none, 0, p7, c7, rfl, ⟨by decide, by decide, by decide, by simp, by simp, by omega, by simp, by unfold maxLen; omega, h1, h2⟩, fun i hi => by simp at hi, fun i hi => ?_⟩
            obtain ⟨gg, cs, e1, e2, e3⟩ := hcl i hi
            obtain ⟨cs', hcs, hxl, hv⟩ := e3
            subst hcs
            exact ⟨gg, 0, cs', e1, ⟨hxl, e2⟩, hv⟩
          have HFIN := Lib.hid hfin
          have hcond : ((r : Int) ≤ 0) ∨ ((0 : Int) < (r : Int) ∧ badr = true) := by
            rcases Nat.eq_zero_or_pos r with h | h
            · exact Or.inl (by omega)
            · refine Or.inr ⟨by omega, ?_⟩
              cases badr
              · exact absurd ⟨h, rfl⟩ hgo
              · rfl
          have d0 : wr.cell? ⟨h7, 0, none⟩ = some (.int .u8 6) := hv7.cell rfl
          have d1 : wr.cell? ⟨h7, 1, none⟩ = some (.bool false) := hv7.cell rfl
          have d2 : wr.cell? ⟨h7, 2, none⟩ = some (.int .i64 0) := hv7.cell rfl
          have d3 : wr.cell? ⟨h7, 3, none⟩ = some (.string (bs [])) := hv7.cell rfl
          have d4 : wr.cell? ⟨h7, 4, none⟩ = some (.slice none 0 0) := hv7.cell rfl
          have d5 : wr.cell? ⟨h7, 5, none⟩ = some (.slice p7 vs.length c7) := hv7.cell rfl
          have HZZ := Lib.hid hz7
          have HBB := Lib.hid hb7
          have HRR2 := Lib.hid hr7
          clear hgo hfin hacc hv7 hz7 hb7 hr7 hrb hRR
          have fz : ∀ i, wr.frozen? ⟨w.heap.size, i, none⟩ = false := fun i => HZZ.out.frozen i
          have f0 := fz 0
          have f1 := fz 1
          have f2 := fz 2
          have f3 := fz 3
          have f4 := fz 4
          have f5 := fz 5
          have z0 : wr.cell? ⟨w.heap.size, 0, none⟩ = some (.int .u8 0) := HZZ.out.cell rfl
          have z1 : wr.cell? ⟨w.heap.size, 1, none⟩ = some (.bool false) := HZZ.out.cell rfl
          have z2 : wr.cell? ⟨w.heap.size, 2, none⟩ = some (.int .i64 0) := HZZ.out.cell rfl
          have z3 : wr.cell? ⟨w.heap.size, 3, none⟩ = some (.string (bs [])) := HZZ.out.cell rfl
          have z4 : wr.cell? ⟨w.heap.size, 4, none⟩ = some (.slice none 0 0) := HZZ.out.cell rfl
          have z5 : wr.cell? ⟨w.heap.size, 5, none⟩ = some (.slice none 0 0) := HZZ.out.cell rfl
          clear fz
          rcases hcond with hcond | ⟨hcond, hcond2⟩
          · go_wp2
            exact rv_fin (r := (.mk 6 false 0 [] [] vs, (lr, badr))) rfl HZZ.out (by omega) HBB.out HRR2.out hBw (Nat.le_refl _) HFIN.out
          · subst hcond2
            go_wp2
            exact rv_fin (r := (.mk 6 false 0 [] [] vs, (lr, true))) rfl HZZ.out (by omega) HBB.out HRR2.out hBw (Nat.le_refl _) HFIN.out
      have hRe : R = (.zero, (l, true)) := by
        rw [hR, valueP, if_neg (by decide)]
        (try simp only [])
        rw [if_neg (fun h => k0 (HB0q.out.1 h)), if_neg (fun h => k1 (HB1q.out.1 h)), if_neg (fun h => k2 (HB2q.out.1 h)), if_neg (fun h => k3 (HB3q.out.1 h)), if_neg (fun h => k4 (HB4q.out.1 h)), if_neg (fun h => k5 (HB5q.out.1 h)), if_neg (fun h => k6 (HB6q.out.1 h)), if_neg (fun h => k7 (HB7q.out.1 h))]
      clear hR
      subst hRe
      have q0 : ((q : Int) == 0) = false := by simp; omega
      have q1 : ((q : Int) == 1) = false := by simp; omega
      have q2 : ((q : Int) == 2) = false := by simp; omega
      have q3 : ((q : Int) == 3) = false := by simp; omega
      have q4 : ((q : Int) == 4) = false := by simp; omega
      have q5 : ((q : Int) == 5) = false := by simp; omega
      have q6 : ((q : Int) == 6) = false := by simp; omega
      have q7 : ((q : Int) == 7) = false := by simp; omega
      go_enter Tryd.func27, Tryd.ntmps27
      go_wp2_with fail
      go_at_call 48
      refine (take_any B g 56 1 (b :: l, false) _ hBg (HW.out _) (show (b :: l).length ≤ 281474976710656 by (try rw [List.length_cons]); omega) (by omega)).mono ?_
      rintro e' w2 ⟨he, hb, hrd⟩
      rw [show takeP 1 (b :: l, false) = ([b], (l, false)) by rw [takeP, if_neg (by simp)]; rfl] at he hb
      subst he
      have hb2 : IsBlk w2 g #[.string (bs l), .bool false] 56 := hb
      have hz := hrd.blk (IsBlk.new_at (by simp)) (by omega : w.heap.size ≠ g)
      have hr2 := (HRW.out _).trans hrd
      have c1 : w2.cell? ⟨g, 1, none⟩ = some (.bool false) := hb2.cell rfl
      have fz : ∀ i, w2.frozen? ⟨w.heap.size, i, none⟩ = false := fun i => hz.frozen i
      have f0 := fz 0
      have f1 := fz 1
      have f2 := fz 2
      have f3 := fz 3
      have f4 := fz 4
      have f5 := fz 5
      have z0 : w2.cell? ⟨w.heap.size, 0, none⟩ = some (.int .u8 0) := hz.cell rfl
      have z1 : w2.cell? ⟨w.heap.size, 1, none⟩ = some (.bool false) := hz.cell rfl
      have z2 : w2.cell? ⟨w.heap.size, 2, none⟩ = some (.int .i64 0) := hz.cell rfl
      have z3 : w2.cell? ⟨w.heap.size, 3, none⟩ = some (.string (bs [])) := hz.cell rfl
      have z4 : w2.cell? ⟨w.heap.size, 4, none⟩ = some (.slice none 0 0) := hz.cell rfl
      have z5 : w2.cell? ⟨w.heap.size, 5, none⟩ = some (.slice none 0 0) := hz.cell rfl
      have hg2 := hb2.lt
      have hh2 := hz.lt
      have HZ := Lib.hid hz
      have HB2 := Lib.hid hb2
      have HR2 := Lib.hid hr2
      clear hb hrd hb2 hz hr2 fz
      clear c1
      have c1 : w2.cell? ⟨g, 1, none⟩ = some (.bool false) := HB2.out.cell rfl
      have f9 : w2.frozen? ⟨g, 1, none⟩ = false := HB2.out.frozen 1
      go_upto_region 34 with (fail)
      have hb3 : IsBlk (w2.setCell ⟨g, 1, none⟩ (.bool true)) g #[.string (bs l), .bool true] 56 := by simpa using HB2.out.set 1 (.bool true)
      have hz3 := HZ.out.set_other (a := ⟨g, 1, none⟩) (show g ≠ w.heap.size by omega) (.bool true)
      have hr3 := HR2.out.set (o := 1) hBg (.bool true)
      clear f0 f1 f2 f3 f4 f5 z0 z1 z2 z3 z4 z5 c1 f9
      generalize World.setCell w2 _ _ = w3 at hb3 hz3 hr3 ⊢
      have HB3 := Lib.hid hb3
      have HZ3 := Lib.hid hz3
      have HR3 := Lib.hid hr3
      clear hb3 hz3 hr3
      have fz : ∀ i, w3.frozen? ⟨w.heap.size, i, none⟩ = false := fun i => HZ3.out.frozen i
      have f0 := fz 0
      have f1 := fz 1
      have f2 := fz 2
      have f3 := fz 3
      have f4 := fz 4
      have f5 := fz 5
      have z0 : w3.cell? ⟨w.heap.size, 0, none⟩ = some (.int .u8 0) := HZ3.out.cell rfl
      have z1 : w3.cell? ⟨w.heap.size, 1, none⟩ = some (.bool false) := HZ3.out.cell rfl
      have z2 : w3.cell? ⟨w.heap.size, 2, none⟩ = some (.int .i64 0) := HZ3.out.cell rfl
      have z3 : w3.cell? ⟨w.heap.size, 3, none⟩ = some (.string (bs [])) := HZ3.out.cell rfl
      have z4 : w3.cell? ⟨w.heap.size, 4, none⟩ = some (.slice none 0 0) := HZ3.out.cell rfl
      have z5 : w3.cell? ⟨w.heap.size, 5, none⟩ = some (.slice none 0 0) := HZ3.out.cell rfl
      clear fz
      go_wp2
      exact rv_fin (r := (.zero, (l, true))) rfl HZ3.out (by omega) HB3.out HR3.out hBw (Nat.le_refl _) (fun w' _ => zero_has _ w')
theorem rv_any : ∀ (k : Nat), k ≤ 7 → RvOk k := by
  intro k
  induction k with
  | zero => intro h; exact rv_step 0 (fun k' h' => by omega) h
  | succ k ih =>
    intro h
    refine rv_step (k + 1) (fun k' h' => ?_) h
    obtain rfl : k' = k := by omega
    exact ih (by omega)
end Go.Proofs.YtghkeilgdmnnlaaDoor

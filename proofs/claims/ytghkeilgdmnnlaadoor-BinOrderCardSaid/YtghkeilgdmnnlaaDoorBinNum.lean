/- Numbers' bytes as plain lists; codicilref03.Number. No conditions. -/
import Derived.Test.YtghkeilgdmnnlaaDoorPush
import Derived.WalkKit
import Derived.WalkSpells
import Derived.WalkLawsBesides
import Derived.Outline
import Derived.BigQuiet
import Derived.BigRegion
import Derived.Laws.BitsAllLaws
import Derived.Lib.Builder
set_option linter.unusedVariables false
set_option linter.unusedSimpArgs false
namespace Go.Proofs.YtghkeilgdmnnlaaDoor
open Go Go.RowKit Go.BigFrame
set_option maxRecDepth 100000

/-- A number's bytes, no more than so many. -/
def numF : Nat → Nat → List UInt8
  | 0, _ => []
  | k + 1, n => if n < 128 then [UInt8.ofNat n] else UInt8.ofNat (n % 128 + 128) :: numF k (n / 128)
def numL (n : Nat) : List UInt8 := numF 10 n
theorem numF_small {k n : Nat} (h : n < 128) : numF (k + 1) n = [UInt8.ofNat n] := by rw [numF, if_pos h]
theorem numF_big {k n : Nat} (h : ¬ n < 128) : numF (k + 1) n = UInt8.ofNat (n % 128 + 128) :: numF k (n / 128) := by rw [numF, if_neg h]
theorem u8_low (m : Nat) (h : m < 256) : ((UInt8.ofNat m).toNat : Int) = (m : Int) := by
  rw [UInt8.toNat_ofNat']
  omega

set_option maxHeartbeats 1000000 in
theorem ref_number_any (n : Nat) (w : World) (hn : n < 18446744073709551616) :
    Calls Tryd.prog 19 #[.int .u64 n] w fun e' w' => e' = .returned (.string (bs (numL n))) ∧ Below w.heap.size w w' := by
  go_enter Tryd.func19, Tryd.ntmps19
  go_wp2
  go_loopw [0, 3] (fun i v wr => ∃ (k m : Nat) (pre : List UInt8), i = .int .u64 m ∧ m < 128 ^ (k + 1) ∧ m < 18446744073709551616 ∧ pre.length + k = 9 ∧ pre ++ numF (k + 1) m = numL n ∧ wr.ownsRow w.heap.size 5 1 v pre.length (u8s pre) ∧ Below w.heap.size w wr) (fun i _ _ => (intOf i).toNat)
  case atStart => exact ⟨9, n, [], rfl, by omega, hn, rfl, rfl, ⟨rfl, Or.inl ⟨rfl, rfl⟩⟩, Below.refl _ _⟩
  case round =>
  obtain ⟨k, m, pre, rfl, hm, hm64, hpk, hnum, hown, hb⟩ := hrel
  have hsz := hb.size
  have HO := Lib.hid hown; clear hown
  have HB := Lib.hid hb; clear hb
  have HN := Lib.hid hnum; clear hnum
  by_cases hlt : m < 128
  · have hI : (m : Int) < 128 := by omega
    go_wp2_with (at_builtin; refine push_at w.heap.size rfl _ _ 45 5 (.int .u8 0) 1 rfl Tryd.underlying45 (by kernel_rfl) rfl (by decide) _ pre.length _ (own_alloc HO.out _) wr.heap.size 1 [_] (IsBlk.new _ _ _) rfl rfl rfl (by simp [Value.oneCell']) (by simp; omega) (by omega) ?_)
    intro v1 w3 hown3 hg3
    have hcv := run_string_own (l := pre ++ [UInt8.ofNat m]) (P := Tryd.prog) (w := w3) (n := pre.length + 1) (base := w.heap.size) (e' := 5) (v := v1) 45 5 9 Tryd.underlying45 Tryd.underlying5 Tryd.underlying9 (by rw [u8s_append, u8s_one, u8_low m (by omega)]; exact hown3)
    have hg4 := World.grownBy.trans (World.grownBy_alloc _ _ _) hg3
    have hob : ∀ j, Value.ownBlock _ = some j → w.heap.size ≤ j := fun j hj => (HO.out.lt j hj).1
    have hnum := HN.out
    rw [numF_small hlt] at hnum
    rw [hnum] at hcv
    go_wp2
    go_ret
    exact ⟨rfl, HB.out.grown hg4 (by omega) (fun j hj => hob j hj)⟩
  · have hI : 128 ≤ (m : Int) := by omega
    go_wp2_with (at_builtin; refine push_at w.heap.size rfl _ _ 45 5 (.int .u8 0) 1 rfl Tryd.underlying45 (by kernel_rfl) rfl (by decide) _ pre.length _ (own_alloc HO.out _) wr.heap.size 1 [_] (IsBlk.new _ _ _) rfl rfl rfl (by simp [Value.oneCell']) (by simp; omega) (by omega) ?_)
    intro v1 w3 hown3 hg3
    have hg4 := World.grownBy.trans (World.grownBy_alloc _ _ _) hg3
    have hob : ∀ j, Value.ownBlock _ = some j → w.heap.size ≤ j := fun j hj => (HO.out.lt j hj).1
    obtain ⟨k, rfl⟩ : ∃ k', k = k' + 1 := by
      cases k with
      | zero => omega
      | succ k => exact ⟨k, rfl⟩
    have hown4 : w3.ownsRow w.heap.size 5 1 v1 (pre ++ [UInt8.ofNat (m % 128 + 128)]).length (u8s (pre ++ [UInt8.ofNat (m % 128 + 128)])) := by
      rw [u8s_append, u8s_one, u8_low _ (by omega), List.length_append]
      exact hown3
    have hnum := HN.out
    rw [numF_big hlt] at hnum
    clear hown3
    go_wp2
    go_roundw
    case rel =>
      refine ⟨k, m / 128, pre ++ [UInt8.ofNat (m % 128 + 128)], by simp, ?_, by omega, by simp; omega, by rw [List.append_assoc]; exact hnum, hown4, HB.out.grown hg4 (by omega) (fun j hj => hob j hj)⟩
      rw [Nat.pow_succ] at hm
      omega
    case measure => simp [intOf]; omega

/-- A buffer that the call owns: its one cell holds an own row of these bytes. -/
def Buf (B g : Nat) (t : TypeId) (l : List UInt8) (w : World) : Prop := B ≤ g ∧ ∃ v, IsBlk w g #[v] t ∧ w.ownsRow B 5 1 v l.length (u8s l)
theorem or128 (m : Int) (h0 : 0 ≤ m) (h : m < 256) : bits .or .u8 m 128 = m % 128 + 128 := by
  obtain ⟨a, rfl⟩ := Int.eq_ofNat_of_zero_le h0
  have key : ∀ a : Fin 256, bits .or .u8 ((a.val : Nat) : Int) 128 = (a.val : Int) % 128 + 128 := by decide +kernel
  exact key ⟨a, by omega⟩
theorem own_ne {w : World} {B : Nat} {e t : TypeId} {v : Value} {n : Nat} {xs : List Value} {g : Nat} {cs : Array Value} (hown : w.ownsRow B e 1 v n xs) (hb : IsBlk w g cs t) (hne : t ≠ e) : v.ownBlock ≠ some g :=
  Lib.ownBlock_ne hown hb hne
theorem Buf.ext {B g : Nat} {t : TypeId} {l : List UInt8} {w w' : World} (h : Buf B g t l w) (hb : Below w.heap.size w w') : Buf B g t l w' := by
  obtain ⟨h1, v, h2, h3⟩ := h
  exact ⟨h1, v, h2.ext hb, own_ext h3 hb⟩

theorem own_set {w : World} {base n g o : Nat} {e : TypeId} {v u : Value} {xs : List Value} (h : w.ownsRow base e 1 v n xs) (hne : v.ownBlock ≠ some g) : (w.setCell ⟨g, o, none⟩ u).ownsRow base e 1 v n xs :=
  h.kept (row := some g) ⟨rfl, rfl, rfl, by simp, fun k hk hk2 => Below.heap_setCell _ _ _ _ (fun e => hk2 (by rw [e]))⟩ (.inr hne)
/-- All old blocks but g and those of bytes are as they were. -/
def KeptT (g : Nat) (w w' : World) : Prop := w.heap.size ≤ w'.heap.size ∧ ∀ b, b < w.heap.size → b ≠ g → (∀ cs fr, w.heap[b]? ≠ some (.cells cs 5 fr)) → w'.heap[b]? = w.heap[b]?
theorem KeptT.refl (g : Nat) (w : World) : KeptT g w w := ⟨Nat.le_refl _, fun _ _ _ _ => rfl⟩
theorem KeptT.trans {g : Nat} {a b c : World} (h : KeptT g a b) (k : KeptT g b c) : KeptT g a c :=
  ⟨Nat.le_trans h.1 k.1, fun i hi hg ht => by
    have e := h.2 i hi hg ht
    rw [k.2 i (Nat.lt_of_lt_of_le hi h.1) hg (by rw [e]; exact ht), e]⟩
theorem KeptT.put {B g : Nat} {v v1 : Value} {n : Nat} {xs : List Value} {w w3 : World} (hown : w.ownsRow B 5 1 v n xs) (hg : w.grownBy w3 v.ownBlock) : KeptT g w (w3.setCell ⟨g, 0, none⟩ v1) := by
  refine ⟨by simpa using hg.size, fun b hb hbg ht => ?_⟩
  rw [Below.heap_setCell _ _ _ _ hbg]
  refine hg.block b hb (fun e => ?_)
  rcases hown.2 with ⟨rfl, _⟩ | ⟨g', cap, cur, rfl, _, hg', _⟩
  · cases e
  · have : g' = b := by
      have e2 : some b = some g' := e
      exact (Option.some.inj e2).symm
    subst this
    exact ht _ _ hg'
theorem KeptT.blk {g b : Nat} {w w' : World} {cs : Array Value} {t : TypeId} (h : KeptT g w w') (hb : IsBlk w b cs t) (ht : t ≠ 5) (hg : b ≠ g) : IsBlk w' b cs t :=
  (h.2 b hb.lt hg (fun cs' fr e => by
    have e2 := (show w.heap[b]? = some (.cells cs t (0, 0)) from hb).symm.trans e
    simp only [Option.some.injEq, Obj.cells.injEq] at e2
    exact ht e2.2.1)).trans hb
theorem KeptT.of_below {g : Nat} {w w' : World} (h : Below w.heap.size w w') : KeptT g w w' := ⟨h.size, fun b hb _ _ => h.block b hb⟩
set_option maxHeartbeats 2000000 in
theorem buffer_number_any (B g : Nat) (t : TypeId) (ht : t ≠ 5) (l : List UInt8) (n : Nat) (w : World) (hB : Buf B g t l w) (hBw : B ≤ w.heap.size) (hl : l.length + 16 ≤ 140737488355328) (hn : n < 18446744073709551616) :
    Calls Tryd.prog 29 #[.pointer (some ⟨g, 0, none⟩), .int .u64 n] w fun e' w' => e' = .returned (.tuple #[]) ∧ Buf B g t (l ++ numL n) w' ∧ Below B w w' ∧ KeptT g w w' := by
  have HB0 := Lib.hid hB; clear hB
  go_enter Tryd.func29, Tryd.ntmps29
  go_wp2
  go_loopw [1] (fun i wr => ∃ (k m : Nat) (pre : List UInt8), i = .int .u64 m ∧ m < 128 ^ (k + 1) ∧ m < 18446744073709551616 ∧ pre.length + k = 9 ∧ pre ++ numF (k + 1) m = numL n ∧ Buf B g t (l ++ pre) wr ∧ Below B w wr ∧ KeptT g w wr) (fun i _ => (intOf i).toNat)
  case atStart => exact ⟨9, n, [], rfl, by omega, hn, rfl, rfl, by rw [List.append_nil]; exact HB0.out, Below.refl _ _, KeptT.refl _ _⟩
  case round =>
  clear HB0
  obtain ⟨k, m, pre, rfl, hm, hm64, hpk, hnum, ⟨hBg, v, hblk, hown⟩, hb, hkt⟩ := hrel
  have HKT := Lib.hid hkt; clear hkt
  have hsz := hb.size
  have c0 : wr.cell? ⟨g, 0, none⟩ = some v := hblk.cell rfl
  have hgl : g < wr.heap.size := hblk.lt
  have hne := own_ne hown hblk ht
  have hlen : (l ++ pre).length ≤ l.length + 9 := by rw [List.length_append]; omega
  have HO := Lib.hid hown; clear hown
  have HBK := Lib.hid hblk; clear hblk
  have HB := Lib.hid hb; clear hb
  have HN := Lib.hid hnum; clear hnum
  have HNE := Lib.hid hne; clear hne
  by_cases hlt : m < 128
  · have hI : (m : Int) < 128 := by omega
    have hI2 : ¬ (127 : Int) < (m : Int) := by omega
    go_wp2_with (at_builtin; refine push_at B rfl _ _ 45 5 (.int .u8 0) 1 rfl Tryd.underlying45 (by kernel_rfl) rfl (by decide) _ (l ++ pre).length _ (own_alloc HO.out _) wr.heap.size 1 [_] (IsBlk.new _ _ _) rfl rfl rfl (by simp [Value.oneCell']) (by simp; omega) (by omega) ?_)
    intro v1 w3 hown3 hg3
    have hg4 := World.grownBy.trans (World.grownBy_alloc _ _ _) hg3
    have hb3 := blk_grown HBK.out hg4 HNE.out
    have d0 : w3.cell? ⟨g, 0, none⟩ = some v := hb3.cell rfl
    have f0 : w3.frozen? ⟨g, 0, none⟩ = false := hb3.frozen 0
    have hnum := HN.out
    rw [numF_small hlt] at hnum
    have hown4 : w3.ownsRow B 5 1 v1 (l ++ numL n).length (u8s (l ++ numL n)) := by
      rw [← hnum, ← List.append_assoc, u8s_append, u8s_one, u8_low m (by omega), List.length_append, List.length_append]
      exact hown3
    have hne3 := own_ne hown4 hb3 ht
    have HR := HB.out.grown hg4 (by omega) (fun j hj => (HO.out.lt j hj).1)
    have HK := fun (u : Value) => Lib.hid (HKT.out.trans (KeptT.put (g := g) (v1 := u) HO.out hg4))
    clear hown3
    obtain ⟨gg, cap, rfl, _, _, _, _⟩ := own_open hown4 (by rw [← hnum]; simp only [List.length_append, List.length_cons, List.length_nil]; omega)
    go_wp2
    go_end0
    exact ⟨rfl, ⟨hBg, _, by simpa using hb3.set 0 _, own_set hown4 hne3⟩, below_set HR hBg, (HK _).out⟩
  · have hI : 127 < (m : Int) := by omega
    have hor := or128 ((m : Int) % 256) (by omega) (by omega)
    have hmm : (m : Int) % 256 % 128 = (m : Int) % 128 := by omega
    rw [hmm] at hor
    go_wp2_with (at_builtin; refine push_at B rfl _ _ 45 5 (.int .u8 0) 1 rfl Tryd.underlying45 (by kernel_rfl) rfl (by decide) _ (l ++ pre).length _ (own_alloc HO.out _) wr.heap.size 1 [_] (IsBlk.new _ _ _) rfl rfl rfl (by simp [Value.oneCell']) (by simp; omega) (by omega) ?_)
    intro v1 w3 hown3 hg3
    have hg4 := World.grownBy.trans (World.grownBy_alloc _ _ _) hg3
    have hb3 := blk_grown HBK.out hg4 HNE.out
    have d0 : w3.cell? ⟨g, 0, none⟩ = some v := hb3.cell rfl
    have f0 : w3.frozen? ⟨g, 0, none⟩ = false := hb3.frozen 0
    obtain ⟨k, rfl⟩ : ∃ k', k = k' + 1 := by
      cases k with
      | zero => omega
      | succ k => exact ⟨k, rfl⟩
    have hown4 : w3.ownsRow B 5 1 v1 (l ++ (pre ++ [UInt8.ofNat (m % 128 + 128)])).length (u8s (l ++ (pre ++ [UInt8.ofNat (m % 128 + 128)]))) := by
      rw [← List.append_assoc, u8s_append, u8s_one, u8_low _ (by omega), List.length_append, List.length_append]
      exact hown3
    have hnum := HN.out
    rw [numF_big (by omega)] at hnum
    have hne3 := own_ne hown4 hb3 ht
    have HR := HB.out.grown hg4 (by omega) (fun j hj => (HO.out.lt j hj).1)
    have HK := fun (u : Value) => Lib.hid (HKT.out.trans (KeptT.put (g := g) (v1 := u) HO.out hg4))
    clear hown3
    obtain ⟨gg, cap, rfl, _, _, _, _⟩ := own_open hown4 (by simp only [List.length_append, List.length_cons, List.length_nil]; omega)
    go_wp2
    go_roundw
    case rel =>
      refine ⟨k, m / 128, pre ++ [UInt8.ofNat (m % 128 + 128)], by simp, ?_, by omega, by simp; omega, by rw [List.append_assoc]; exact hnum, ⟨hBg, _, by simpa using hb3.set 0 _, own_set hown4 hne3⟩, below_set HR hBg, (HK _).out⟩
      rw [Nat.pow_succ] at hm
      omega
    case measure => simp [intOf]; omega

theorem numL_length (n : Nat) : (numL n).length ≤ 10 := by
  have h : ∀ k n, (numF k n).length ≤ k := by
    intro k
    induction k with
    | zero => intro n; exact Nat.le_refl _
    | succ k ih =>
      intro n
      by_cases hn : n < 128
      · rw [numF_small hn]; simp
      · rw [numF_big hn]
        have := ih (n / 128)
        simp only [List.length_cons]
        omega
  exact h 10 n
set_option maxHeartbeats 1000000 in
theorem bin_number_any (n : Nat) (w : World) (hn : n < 18446744073709551616) :
    Calls Tryd.prog 18 #[.int .u64 n] w fun e' w' => e' = .returned (.string (bs (numL n))) ∧ Below w.heap.size w w' := by
  go_enter Tryd.func18, Tryd.ntmps18
  go_wp2_with fail
  go_at_call 29
  refine (buffer_number_any w.heap.size w.heap.size 47 (by decide) [] n _ ⟨Nat.le_refl _, _, IsBlk.new _ _ _, ⟨rfl, Or.inl ⟨rfl, rfl⟩⟩⟩ (by simp) (by simp) hn).mono ?_
  rintro e' w1 ⟨rfl, ⟨hBg, v, hblk, hown⟩, hb, _⟩
  rw [List.nil_append] at hown
  have c0 : w1.cell? ⟨w.heap.size, 0, none⟩ = some v := hblk.cell rfl
  have hlt := hblk.lt
  have hcv := run_string_own (P := Tryd.prog) (w := w1) 45 5 9 Tryd.underlying45 Tryd.underlying5 Tryd.underlying9 hown
  have HW := Lib.hid (Below.trans (((Below.refl w.heap.size w).alloc (Nat.le_refl _) _)) hb); clear hb hblk hown
  go_wp2
  go_ret
  exact ⟨rfl, HW.out⟩
end Go.Proofs.YtghkeilgdmnnlaaDoor

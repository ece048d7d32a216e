/- sha.right, sha.more, sha.Start: contracts. Condition: the table of constants reads as the text lays it. -/
import Derived.Test.YtfnlehnhcekpkaaDoorShaBlock
import Derived.Deep.LoopGhost
import Derived.Lib.IndexBytes
set_option linter.unusedVariables false
set_option linter.unusedSimpArgs false
namespace Go.Proofs.YtfnlehnhcekpkaaDoor
open Go Go.RowKit Go.BigFrame
set_option maxRecDepth 100000

/-- A state as a value. -/
def shaV (hs : List Int) (n : Int) (r : ByteArray) : Value := .agg (u32s hs ++ #[.int .u64 n, .string r])
def rightB (n : Int) (k : Nat) : Bool := decide (n < 1152921504606846976) && (decide (k < 64) && ((k : Int) == n % 64))

theorem ret_bool {a b : Bool} (h : a = b) : Ending.returned (.bool a) = .returned (.bool b) := by rw [h]
set_option maxHeartbeats 1000000 in
theorem right_eight (a b c d e f g h : Int) (n : Int) (r : ByteArray) (w : World) (hr : r.size ≤ 281474976710656) (hn0 : 0 ≤ n) (hn : n < 18446744073709551616) :
    Calls Tryd.prog 68 #[shaV [a, b, c, d, e, f, g, h] n r] w fun e w' => e = .returned (.bool (rightB n r.size)) ∧ Below w.heap.size w w' := by
  show Calls Tryd.prog 68 #[.agg #[.int .u32 a, .int .u32 b, .int .u32 c, .int .u32 d, .int .u32 e, .int .u32 f, .int .u32 g, .int .u32 h, .int .u64 n, .string r]] w _
  unfold rightB
  by_cases h1 : n < 1152921504606846976
  · by_cases h2 : r.size < 64
    · go_enter Tryd.func68, Tryd.ntmps68
      go_wp2
      go_ret
      exact ⟨ret_bool (by simp [h1, h2]), (Below.refl _ _).alloc (Nat.le_refl _) _⟩
    · go_enter Tryd.func68, Tryd.ntmps68
      go_wp2
      go_ret
      exact ⟨ret_bool (by simp [h1, h2]), (Below.refl _ _).alloc (Nat.le_refl _) _⟩
  · go_enter Tryd.func68, Tryd.ntmps68
    go_wp2
    go_ret
    exact ⟨ret_bool (by have h2 : ¬ n < 1152921504606846976 := by omega
                        simp [h2]), (Below.refl _ _).alloc (Nat.le_refl _) _⟩
theorem right_any (hs : List Int) (hl : hs.length = 8) (n : Int) (r : ByteArray) (w : World) (hr : r.size ≤ 281474976710656) (hn0 : 0 ≤ n) (hn : n < 18446744073709551616) :
    Calls Tryd.prog 68 #[shaV hs n r] w fun e w' => e = .returned (.bool (rightB n r.size)) ∧ Below w.heap.size w w' := by
  obtain ⟨a, b, c, d, e, f, g, h, rfl⟩ := of_eight hl
  exact right_eight a b c d e f g h n r w hr hn0 hn

theorem start_any (w : World) : Calls Tryd.prog 49 #[] w fun e w' => e = .returned (shaV h0 0 (bs [])) ∧ Below w.heap.size w w' := by
  go_enter Tryd.func49, Tryd.ntmps49
  go_wp2
  exact bodyPost_ret (v := shaV h0 0 (bs [])) (by simp [results, Tryd.results49, go_sem, shaV, h0, u32s, bs]) rfl ⟨rfl, (Below.refl _ _).alloc (Nat.le_refl _) _⟩

set_option maxHeartbeats 1000000 in
theorem rright_eight (a b c d e f g h : Int) (n : Int) (r : ByteArray) (w : World) (hr : r.size ≤ 281474976710656) (hn0 : 0 ≤ n) (hn : n < 18446744073709551616) :
    Calls Tryd.prog 72 #[shaV [a, b, c, d, e, f, g, h] n r] w fun e w' => e = .returned (.bool (rightB n r.size)) ∧ Below w.heap.size w w' := by
  show Calls Tryd.prog 72 #[.agg #[.int .u32 a, .int .u32 b, .int .u32 c, .int .u32 d, .int .u32 e, .int .u32 f, .int .u32 g, .int .u32 h, .int .u64 n, .string r]] w _
  unfold rightB
  by_cases h1 : n < 1152921504606846976
  · by_cases h2 : r.size < 64
    · go_enter Tryd.func72, Tryd.ntmps72
      go_wp2
      go_ret
      exact ⟨ret_bool (by simp [h1, h2]), (Below.refl _ _).alloc (Nat.le_refl _) _⟩
    · go_enter Tryd.func72, Tryd.ntmps72
      go_wp2
      go_ret
      exact ⟨ret_bool (by simp [h1, h2]), (Below.refl _ _).alloc (Nat.le_refl _) _⟩
  · go_enter Tryd.func72, Tryd.ntmps72
    go_wp2
    go_ret
    exact ⟨ret_bool (by have h2 : ¬ n < 1152921504606846976 := by omega
                        simp [h2]), (Below.refl _ _).alloc (Nat.le_refl _) _⟩
theorem rright_any (hs : List Int) (hl : hs.length = 8) (n : Int) (r : ByteArray) (w : World) (hr : r.size ≤ 281474976710656) (hn0 : 0 ≤ n) (hn : n < 18446744073709551616) :
    Calls Tryd.prog 72 #[shaV hs n r] w fun e w' => e = .returned (.bool (rightB n r.size)) ∧ Below w.heap.size w w' := by
  obtain ⟨a, b, c, d, e, f, g, h, rfl⟩ := of_eight hl
  exact rright_eight a b c d e f g h n r w hr hn0 hn

theorem rstart_any (w : World) : Calls Tryd.prog 60 #[] w fun e w' => e = .returned (shaV h0 0 (bs [])) ∧ Below w.heap.size w w' := by
  go_enter Tryd.func60, Tryd.ntmps60
  go_wp2
  exact bodyPost_ret (v := shaV h0 0 (bs [])) (by simp [results, Tryd.results60, go_sem, shaV, h0, u32s, bs]) rfl ⟨rfl, (Below.refl _ _).alloc (Nat.le_refl _) _⟩

/-! ### more -/
theorem absorb_short : ∀ (n : Nat) (hs : List Int) (l : List UInt8), l.length < 64 → absorb n hs l = (hs, l)
  | 0, _, _, _ => rfl
  | n + 1, hs, l, h => by rw [absorb, if_neg (by omega)]
theorem more_short (hs : List Int) (l : List UInt8) (h : l.length < 64) : more hs l = (hs, l) := absorb_short _ _ _ h
theorem more_long (hs : List Int) (l : List UInt8) (h : 64 ≤ l.length) : more hs l = more (blk hs l) (l.drop 64) := by
  unfold more
  obtain ⟨k, hk⟩ : ∃ k, l.length / 64 = k + 1 := ⟨l.length / 64 - 1, by omega⟩
  rw [hk, absorb, if_pos h]
  have : (l.drop 64).length / 64 = k := by rw [List.length_drop]; omega
  rw [this]
theorem more_fst (hs : List Int) (hl : hs.length = 8) : ∀ (n : Nat) (l : List UInt8), l.length ≤ n → (more hs l).1.length = 8 := by
  intro n
  induction n generalizing hs with
  | zero => intro l h; rw [more_short _ _ (by omega)]; exact hl
  | succ n ih =>
    intro l h
    by_cases h6 : 64 ≤ l.length
    · rw [more_long _ _ h6]
      exact ih _ (by rw [blk_length]; exact hl) _ (by rw [List.length_drop]; omega)
    · rw [more_short _ _ (by omega)]; exact hl
theorem more_length (hs : List Int) (hl : hs.length = 8) (l : List UInt8) : (more hs l).1.length = 8 := more_fst hs hl _ l (Nat.le_refl _)
theorem more_rest (hs : List Int) : ∀ (n : Nat) (l : List UInt8), l.length ≤ n → (more hs l).2.length = l.length % 64 := by
  intro n
  induction n generalizing hs with
  | zero => intro l h; rw [more_short _ _ (by omega)]; show l.length = _; omega
  | succ n ih =>
    intro l h
    by_cases h6 : 64 ≤ l.length
    · rw [more_long _ _ h6, ih _ _ (by rw [List.length_drop]; omega), List.length_drop]; omega
    · rw [more_short _ _ (by omega)]; show l.length = _; omega
set_option maxHeartbeats 4000000 in
theorem more_eight (a b c d e f g h : Int) (n : Int) (r s : ByteArray) (w : World) (hK : Ks w) (hr : r.size + s.size ≤ 281474976710656) (hn0 : 0 ≤ n) (hn : n < 18446744073709551616) :
    Calls Tryd.prog 48 #[shaV [a, b, c, d, e, f, g, h] n r, .string s] w fun e' w' =>
      e' = .returned (shaV (more [a, b, c, d, e, f, g, h] (r.data.toList ++ s.data.toList)).1 ((n + s.size) % 18446744073709551616) (bs (more [a, b, c, d, e, f, g, h] (r.data.toList ++ s.data.toList)).2)) ∧ Below w.heap.size w w' := by
  show Calls Tryd.prog 48 #[.agg #[.int .u32 a, .int .u32 b, .int .u32 c, .int .u32 d, .int .u32 e, .int .u32 f, .int .u32 g, .int .u32 h, .int .u64 n, .string r], .string s] w _
  have h0 := hK.lt
  have HK := Lib.hid hK; clear hK
  go_enter Tryd.func48, Tryd.ntmps48
  go_wp2
  go_loopg [1] (r.size + s.size) (fun k v wr => ∃ (s1 : ByteArray) (a1 b1 c1 d1 e1 f1 g1 h1 : Int), v = .string s1 ∧ k = s1.size ∧ s1.size ≤ 281474976710656 ∧ more [a1, b1, c1, d1, e1, f1, g1, h1] s1.data.toList = more [a, b, c, d, e, f, g, h] (r.data.toList ++ s.data.toList) ∧
    IsBlk wr w.heap.size (u32s [a1, b1, c1, d1, e1, f1, g1, h1] ++ #[.int .u64 (IntKind.u64.wrap (n + s.size)), .string r]) 89 ∧
    IsBlk wr (w.heap.size + 1) (u32s [0, 0, 0, 0, 0, 0, 0, 0] ++ #[.int .u64 0, .string (bs [])]) 89 ∧ Below w.heap.size w wr)
  case atStart =>
    have e1 : (r ++ s).size = r.size + s.size := by simp
    refine ⟨r ++ s, a, b, c, d, e, f, g, h, rfl, e1.symm, by omega, by simp, (IsBlk.new w _ _).alloc _, ?_, ((Below.refl _ _).alloc (Nat.le_refl _) _).alloc (by simp) _⟩
    exact IsBlk.new_at (by simp)
  case round =>
  obtain ⟨s1, a1, b1, c1, d1, e1, f1, g1, h1, rfl, rfl, hs1, hm, hb1, hb2, hb⟩ := hrel
  have hN : w.heap.size < wr.heap.size := hb1.lt
  have HM := Lib.hid hm; clear hm
  have HB1 := Lib.hid hb1; clear hb1
  have HB2 := Lib.hid hb2; clear hb2
  have HB := Lib.hid hb; clear hb
  by_cases h6 : 64 ≤ s1.size
  · go_wp2_with (go_at_call 69; refine (block_any w.heap.size _ a1 b1 c1 d1 e1 f1 g1 h1 _ _ HB1.out (by omega) (HK.out.below HB.out h0) s1 h6 hs1).mono ?_; rintro e' w' ⟨rfl, hgr, hbk⟩)
    have e64 : (s1.extract 64 s1.size).data.toList = s1.data.toList.drop 64 := Lib.extract_to_end s1 64
    have z64 : (s1.extract 64 s1.size).size = s1.size - 64 := by simp
    go_roundg (s1.extract 64 s1.size).size
    case measure => omega
    case rel =>
      obtain ⟨a2, b2, c2, d2, e2, f2, g2, h2, hbl⟩ := of_eight (show (blk [a1, b1, c1, d1, e1, f1, g1, h1] s1.data.toList).length = 8 from blk_length _ _)
      refine ⟨_, a2, b2, c2, d2, e2, f2, g2, h2, rfl, rfl, by omega, ?_, ?_, ?_, HB.out.grown hgr (by omega) (fun k hk => by injection hk with hk; omega)⟩
      · rw [e64, ← hbl, ← more_long _ _ (by rw [← ba_size]; exact h6)]
        exact HM.out
      · rw [← hbl]; exact hbk
      · exact (hgr.block (w.heap.size + 1) HB2.out.lt (by simp)).trans HB2.out
  · have hN1 := HB2.out.lt
    have HX : more [a1, b1, c1, d1, e1, f1, g1, h1] s1.data.toList = ([a1, b1, c1, d1, e1, f1, g1, h1], s1.data.toList) := more_short _ _ (by rw [← ba_size]; omega)
    rw [HM.out] at HX
    have HXX := Lib.hid HX; clear HX
    have p0 : wr.cell? ⟨w.heap.size, 0, none⟩ = some (.int .u32 a1) := HB1.out.cell rfl
    have p1 : wr.cell? ⟨w.heap.size, 1, none⟩ = some (.int .u32 b1) := HB1.out.cell rfl
    have p2 : wr.cell? ⟨w.heap.size, 2, none⟩ = some (.int .u32 c1) := HB1.out.cell rfl
    have p3 : wr.cell? ⟨w.heap.size, 3, none⟩ = some (.int .u32 d1) := HB1.out.cell rfl
    have p4 : wr.cell? ⟨w.heap.size, 4, none⟩ = some (.int .u32 e1) := HB1.out.cell rfl
    have p5 : wr.cell? ⟨w.heap.size, 5, none⟩ = some (.int .u32 f1) := HB1.out.cell rfl
    have p6 : wr.cell? ⟨w.heap.size, 6, none⟩ = some (.int .u32 g1) := HB1.out.cell rfl
    have p7 : wr.cell? ⟨w.heap.size, 7, none⟩ = some (.int .u32 h1) := HB1.out.cell rfl
    have p8 : wr.cell? ⟨w.heap.size, 8, none⟩ = some (.int .u64 (IntKind.u64.wrap (n + s.size))) := HB1.out.cell rfl
    have p9 : wr.cell? ⟨w.heap.size, 9, none⟩ = some (.string r) := HB1.out.cell rfl
    have q0 : wr.cell? ⟨w.heap.size + 1, 0, none⟩ = some (.int .u32 0) := HB2.out.cell rfl
    have q1 : wr.cell? ⟨w.heap.size + 1, 1, none⟩ = some (.int .u32 0) := HB2.out.cell rfl
    have q2 : wr.cell? ⟨w.heap.size + 1, 2, none⟩ = some (.int .u32 0) := HB2.out.cell rfl
    have q3 : wr.cell? ⟨w.heap.size + 1, 3, none⟩ = some (.int .u32 0) := HB2.out.cell rfl
    have q4 : wr.cell? ⟨w.heap.size + 1, 4, none⟩ = some (.int .u32 0) := HB2.out.cell rfl
    have q5 : wr.cell? ⟨w.heap.size + 1, 5, none⟩ = some (.int .u32 0) := HB2.out.cell rfl
    have q6 : wr.cell? ⟨w.heap.size + 1, 6, none⟩ = some (.int .u32 0) := HB2.out.cell rfl
    have q7 : wr.cell? ⟨w.heap.size + 1, 7, none⟩ = some (.int .u32 0) := HB2.out.cell rfl
    have q8 : wr.cell? ⟨w.heap.size + 1, 8, none⟩ = some (.int .u64 0) := HB2.out.cell rfl
    have q9 : wr.cell? ⟨w.heap.size + 1, 9, none⟩ = some (.string (bs [])) := HB2.out.cell rfl
    have f1' : ∀ j, wr.frozen? ⟨w.heap.size, j, none⟩ = false := fun j => HB1.out.frozen j
    have f2' : ∀ j, wr.frozen? ⟨w.heap.size + 1, j, none⟩ = false := fun j => HB2.out.frozen j
    go_wp2
    have hwr : IntKind.u64.wrap (n + s.size) = (n + s.size) % 18446744073709551616 := by simp [IntKind.wrap, IntKind.bits, IntKind.signed]
    rw [HXX.out, ← hwr]
    obtain ⟨W, hW⟩ : ∃ W : World, W = ((((((((((wr.setCell ⟨w.heap.size, 9, none⟩ (.string s1)).setCell ⟨w.heap.size + 1, 0, none⟩ (.int .u32 a1)).setCell ⟨w.heap.size + 1, 1, none⟩ (.int .u32 b1)).setCell ⟨w.heap.size + 1, 2, none⟩ (.int .u32 c1)).setCell ⟨w.heap.size + 1, 3, none⟩ (.int .u32 d1)).setCell ⟨w.heap.size + 1, 4, none⟩ (.int .u32 e1)).setCell ⟨w.heap.size + 1, 5, none⟩ (.int .u32 f1)).setCell ⟨w.heap.size + 1, 6, none⟩ (.int .u32 g1)).setCell ⟨w.heap.size + 1, 7, none⟩ (.int .u32 h1)).setCell ⟨w.heap.size + 1, 8, none⟩ (.int .u64 (IntKind.u64.wrap (n + s.size)))).setCell ⟨w.heap.size + 1, 9, none⟩ (.string s1) := ⟨_, rfl⟩
    have hI : IsBlk W (w.heap.size + 1) #[.int .u32 a1, .int .u32 b1, .int .u32 c1, .int .u32 d1, .int .u32 e1, .int .u32 f1, .int .u32 g1, .int .u32 h1, .int .u64 (IntKind.u64.wrap (n + s.size)), .string s1] 89 := by
      rw [hW]
      have HB2' : IsBlk wr (w.heap.size + 1) #[.int .u32 0, .int .u32 0, .int .u32 0, .int .u32 0, .int .u32 0, .int .u32 0, .int .u32 0, .int .u32 0, .int .u64 0, .string (bs [])] 89 := HB2.out
      have := ((((((((((HB2'.set_other (a := ⟨w.heap.size, 9, none⟩) (by simp) (.string s1)).set 0 (.int .u32 a1)).set 1 (.int .u32 b1)).set 2 (.int .u32 c1)).set 3 (.int .u32 d1)).set 4 (.int .u32 e1)).set 5 (.int .u32 f1)).set 6 (.int .u32 g1)).set 7 (.int .u32 h1)).set 8 (.int .u64 (IntKind.u64.wrap (n + s.size)))).set 9 (.string s1)
      simpa using this
    have hbW : Below w.heap.size w W := by
      rw [hW]
      repeat refine Below.setCell ?_ (by simp) _
      exact HB.out
    rw [← hW]
    clear hW
    exact bodyPost_ret (v := .agg #[.int .u32 a1, .int .u32 b1, .int .u32 c1, .int .u32 d1, .int .u32 e1, .int .u32 f1, .int .u32 g1, .int .u32 h1, .int .u64 (IntKind.u64.wrap (n + s.size)), .string s1]) (results_cell_row Tryd.results48 _ W (w.heap.size + 1) 89 _ (0, 0) _ rfl hI Tryd.underlying89 rfl (by kernel_rfl)) rfl ⟨rfl, hbW⟩
theorem more_any (hs : List Int) (hl : hs.length = 8) (n : Int) (r s : ByteArray) (w : World) (hK : Ks w) (hr : r.size + s.size ≤ 281474976710656) (hn0 : 0 ≤ n) (hn : n < 18446744073709551616) :
    Calls Tryd.prog 48 #[shaV hs n r, .string s] w fun e' w' =>
      e' = .returned (shaV (more hs (r.data.toList ++ s.data.toList)).1 ((n + s.size) % 18446744073709551616) (bs (more hs (r.data.toList ++ s.data.toList)).2)) ∧ Below w.heap.size w w' := by
  obtain ⟨a, b, c, d, e, f, g, h, rfl⟩ := of_eight hl
  exact more_eight a b c d e f g h n r s w hK hr hn0 hn
end Go.Proofs.YtfnlehnhcekpkaaDoor

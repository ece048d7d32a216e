/- '==' of states; the laws' own gate 'lives'. Condition: the table of constants reads as the text lays it. -/
import Derived.Test.YtpnahmbhpbdpiaaDoorShaSum
import Derived.Test.YtpnahmbhpbdpiaaDoorShaHex
import Derived.Laws.StructEq
set_option linter.unusedVariables false
set_option linter.unusedSimpArgs false
namespace Go.Proofs.YtpnahmbhpbdpiaaDoor
open Go Go.RowKit Go.BigFrame
set_option maxRecDepth 100000

theorem all_range_eqI : ∀ (xs ys : List Int), xs.length = ys.length → ((List.range xs.length).all fun i => xs.getD i 0 == ys.getD i 0) = (xs == ys)
  | [], [], _ => rfl
  | x :: xs, y :: ys, h => by
    have ih := all_range_eqI xs ys (by simpa using h)
    rw [List.length_cons, List.range_succ_eq_map, List.all_cons, List.all_map]
    simp only [List.getD_cons_zero, Function.comp_def, List.getD_cons_succ, ih]
    simp [List.cons_beq_cons]
  | [], _ :: _, h => by simp at h
  | _ :: _, [], h => by simp at h
theorem run_equalIn_u32s {P : Program} (w : World) (d : Nat) (t e : TypeId) (n : Nat) (ht : P.underlying t = some (.array n e)) (he : P.underlying e = some (.int .u32)) (hsz : ∀ w, (sizeOf e).run P w = .ok 1 w)
    (xs ys : List Int) (hx : xs.length = n) (hy : ys.length = n) :
    (Op.equalIn (d + 2) t (.agg (u32s xs)) (.agg (u32s ys))).run P w = .ok (xs == ys) w := by
  rw [← all_range_eqI xs ys (hx.trans hy.symm), hx, List.range_eq_range', Op.equalIn]
  simp only [Sem.run_bind, run_underlying ht, Result.andThen_ok, hsz, Std.Legacy.Range.forIn_eq_forIn_range', Std.Legacy.Range.size, Nat.sub_zero, Nat.add_sub_cancel, Nat.div_one]
  have hl : ∀ i ∈ List.range' 0 n 1, i < n := fun i hi => by simpa using (List.mem_range'_1.1 hi).2
  generalize List.range' 0 n 1 = l at hl ⊢
  induction l with
  | nil => simp
  | cons i l ih =>
    have hi : i < n := hl i (by simp)
    have px : (part e (u32s xs) (i * 1)).run P w = .ok (.int .u32 (xs.getD i 0)) w := by
      simp [u32s, part, isAgg, run_underlying he, List.getD, List.getElem?_eq_getElem (show i < xs.length by omega)]
    have py : (part e (u32s ys) (i * 1)).run P w = .ok (.int .u32 (ys.getD i 0)) w := by
      simp [u32s, part, isAgg, run_underlying he, List.getD, List.getElem?_eq_getElem (show i < ys.length by omega)]
    have pe : (Op.equalIn (d + 1) e (.int .u32 (xs.getD i 0)) (.int .u32 (ys.getD i 0))).run P w = .ok (xs.getD i 0 == ys.getD i 0) w := run_equalIn_int w d e .u32 .u32 _ _ he
    simp only [List.forIn_cons, Sem.run_bind, px, py, pe, Result.andThen_ok, List.all_cons]
    cases hb : (xs.getD i 0 == ys.getD i 0)
    · simp
    · simp only [Bool.not_true, Bool.false_eq_true, if_false, Sem.run_pure, Result.andThen_ok, Bool.true_and]
      exact ih fun j hj => hl j (by simp [hj])
theorem bs_beq (r r' : ByteArray) : (r.toList == r'.toList) = (r.data.toList == r'.data.toList) := by
  rw [ByteArray.toList_eq, ByteArray.toList_eq]
theorem eqf_cons {P : Program} {d : Nat} {xs ys : Array Value} {f : Field} {fs : List Field} {a b : Value} {r s : Bool} {w : World} (hn : (f.name == "_") = false) (ha : (part f.type xs f.offset).run P w = .ok a w) (hb : (part f.type ys f.offset).run P w = .ok b w) (he : (Op.equalIn d f.type a b).run P w = .ok r w) (hr : (Op.eqFields d xs ys fs).run P w = .ok s w) : (Op.eqFields d xs ys (f :: fs)).run P w = .ok (r && s) w := by
  have hn' : f.name ≠ "_" := by simpa using hn
  rw [Op.eqFields]
  simp only [if_pos hn', Sem.run_bind, ha, hb, he, Result.andThen_ok]
  cases r
  · simp
  · simpa using hr
theorem eqf_nil {P : Program} {d : Nat} {xs ys : Array Value} {w : World} : (Op.eqFields d xs ys []).run P w = .ok true w := by simp [Op.eqFields]
@[go_sem high] theorem run_eql_sha (a b c d e f g h' : Int) (n : Int) (r : ByteArray) (a1 b1 c1 d1 e1 f1 g1 h1 : Int) (n1 : Int) (r1 : ByteArray) (w : World) :
    (binOp .eql 29 (.agg #[.int .u32 a, .int .u32 b, .int .u32 c, .int .u32 d, .int .u32 e, .int .u32 f, .int .u32 g, .int .u32 h', .int .u64 n, .string r]) (.agg #[.int .u32 a1, .int .u32 b1, .int .u32 c1, .int .u32 d1, .int .u32 e1, .int .u32 f1, .int .u32 g1, .int .u32 h1, .int .u64 n1, .string r1])).run Tryd.prog w = .ok (.bool (([a, b, c, d, e, f, g, h'] == [a1, b1, c1, d1, e1, f1, g1, h1]) && (n == n1) && (r.data.toList == r1.data.toList))) w := by
  have hf : (Tryd.prog.fieldsOf 29).toList.map (fun f => ((f.name == "_"), f.type, f.offset)) = [(false, 26, 0), (false, 27, 8), (false, 9, 9)] := by kernel_rfl
  have q0 : ∀ (a b c d e f g h' n : Int) (r : ByteArray), (part 26 #[.int .u32 a, .int .u32 b, .int .u32 c, .int .u32 d, .int .u32 e, .int .u32 f, .int .u32 g, .int .u32 h', .int .u64 n, .string r] 0).run Tryd.prog w = .ok (.agg (u32s [a, b, c, d, e, f, g, h'])) w := fun _ _ _ _ _ _ _ _ _ _ => by kernel_rfl
  have q1 : ∀ (a b c d e f g h' n : Int) (r : ByteArray), (part 27 #[.int .u32 a, .int .u32 b, .int .u32 c, .int .u32 d, .int .u32 e, .int .u32 f, .int .u32 g, .int .u32 h', .int .u64 n, .string r] 8).run Tryd.prog w = .ok (.int .u64 n) w := fun _ _ _ _ _ _ _ _ _ _ => by kernel_rfl
  have q2 : ∀ (a b c d e f g h' n : Int) (r : ByteArray), (part 9 #[.int .u32 a, .int .u32 b, .int .u32 c, .int .u32 d, .int .u32 e, .int .u32 f, .int .u32 g, .int .u32 h', .int .u64 n, .string r] 9).run Tryd.prog w = .ok (.string r) w := fun _ _ _ _ _ _ _ _ _ _ => by kernel_rfl
  have hs : Tryd.prog.underlying 29 = some (.struct (Tryd.prog.fieldsOf 29)) := by kernel_rfl
  rw [run_eql_struct, show (10000 : Nat) = 9999 + 1 from rfl, run_equalIn_agg w 9999 29 _ _ hs (by kernel_rfl)]
  obtain ⟨f0, l0, hl0, h0, hf⟩ := List.map_eq_cons_iff.1 hf
  obtain ⟨f1, l1, rfl, h1, hf⟩ := List.map_eq_cons_iff.1 hf
  obtain ⟨f2, l2, rfl, h2, hf⟩ := List.map_eq_cons_iff.1 hf
  obtain rfl := List.map_eq_nil_iff.1 hf
  simp only [Prod.mk.injEq] at h0 h1 h2
  obtain ⟨m0, t0, o0⟩ := h0
  obtain ⟨m1, t1, o1⟩ := h1
  obtain ⟨m2, t2, o2⟩ := h2
  rw [hl0, eqf_cons m0 (by rw [t0, o0]; exact q0 ..) (by rw [t0, o0]; exact q0 ..) (by rw [t0]; exact run_equalIn_u32s w 9997 26 25 8 Tryd.underlying26 Tryd.underlying25 (fun _ => by kernel_rfl) _ _ rfl rfl)
    (eqf_cons m1 (by rw [t1, o1]; exact q1 ..) (by rw [t1, o1]; exact q1 ..) (by rw [t1]; exact run_equalIn_int w 9998 27 .u64 .u64 _ _ Tryd.underlying27)
    (eqf_cons m2 (by rw [t2, o2]; exact q2 ..) (by rw [t2, o2]; exact q2 ..) (by rw [t2]; exact run_equalIn_string w 9998 9 _ _ Tryd.underlying9) eqf_nil))]
  simp only [Result.andThen_ok, Bool.and_true, bs_beq, Bool.and_assoc]
def abcHex : ByteArray := ⟨#[98, 97, 55, 56, 49, 54, 98, 102, 56, 102, 48, 49, 99, 102, 101, 97, 52, 49, 52, 49, 52, 48, 100, 101, 53, 100, 97, 101, 50, 50, 50, 51, 98, 48, 48, 51, 54, 49, 97, 51, 57, 54, 49, 55, 55, 97, 57, 99, 98, 52, 49, 48, 102, 102, 54, 49, 102, 50, 48, 48, 49, 53, 97, 100]⟩
@[go_sem high] theorem fold_abcHex : (⟨#[98, 97, 55, 56, 49, 54, 98, 102, 56, 102, 48, 49, 99, 102, 101, 97, 52, 49, 52, 49, 52, 48, 100, 101, 53, 100, 97, 101, 50, 50, 50, 51, 98, 48, 48, 51, 54, 49, 97, 51, 57, 54, 49, 55, 55, 97, 57, 99, 98, 52, 49, 48, 102, 102, 54, 49, 102, 50, 48, 48, 49, 53, 97, 100]⟩ : ByteArray) = abcHex := rfl
theorem abc_is : bs (hexL (shaL [97, 98, 99])) = abcHex := by rw [abc]; rfl

set_option maxHeartbeats 1000000 in
theorem lives_any (w : World) (hK : Ks w) : Calls Tryd.prog 8 #[] w fun e' w' => e' = .returned (.bool true) ∧ Below w.heap.size w w' := by
  have HK := Lib.hid hK; clear hK
  go_enter Tryd.func8, Tryd.ntmps8
  go_wp2_with fail
  go_at_call 9
  refine (sum_any _ _ HK.out (by decide)).mono ?_
  rintro e' w1 ⟨rfl, hb⟩
  have H1 := Lib.hid hb; clear hb
  go_wp2_with fail
  go_at_call 11
  refine (hex_any _ _ (by decide)).mono ?_
  rintro e' w2 ⟨he, hb⟩
  have he2 : e' = .returned (.string abcHex) := by rw [he, bs_toList]; exact congrArg (fun x => Ending.returned (Value.string x)) abc_is
  subst he2
  clear he
  have H2 := Lib.hid (below_ext H1.out hb); clear hb
  go_wp2
  go_ret
  exact ⟨rfl, H2.out⟩

theorem by_app (l m : List UInt8) (i : Nat) (h : i < l.length) : by_ (l ++ m) i = by_ l i := by
  unfold by_
  rw [List.getD_eq_getElem?_getD, List.getD_eq_getElem?_getD, List.getElem?_append_left h]
theorem word_app (l m : List UInt8) (k : Nat) (h : 4 * k + 3 < l.length) : word (l ++ m) k = word l k := by
  unfold word
  rw [by_app _ _ _ (by omega), by_app _ _ _ (by omega), by_app _ _ _ (by omega), by_app _ _ _ (by omega)]
theorem sched_app (l m : List UInt8) (h : 64 ≤ l.length) : ∀ k, sched (l ++ m) k = sched l k
  | 0 => rfl
  | k + 1 => by
    rw [sched, sched, sched_app l m h k]
    by_cases hk : k < 16
    · rw [if_pos hk, if_pos hk, word_app _ _ _ (by omega)]
    · rw [if_neg hk, if_neg hk]
theorem blk_app (hs : List Int) (l m : List UInt8) (h : 64 ≤ l.length) : blk hs (l ++ m) = blk hs l := by
  unfold blk
  rw [sched_app l m h]
theorem more_app_n : ∀ (n : Nat) (hs : List Int) (l m : List UInt8), l.length ≤ n → more hs (l ++ m) = more (more hs l).1 ((more hs l).2 ++ m) := by
  intro n
  induction n with
  | zero => intro hs l m h; rw [more_short hs l (by omega)]
  | succ n ih =>
    intro hs l m h
    by_cases hl : l.length < 64
    · rw [more_short hs l hl]
    · rw [more_long hs (l ++ m) (by simp; omega), more_long hs l (by omega), blk_app _ _ _ (by omega), List.drop_append_of_le_length (by omega)]
      exact ih _ _ _ (by simp; omega)
theorem more_app (hs : List Int) (l m : List UInt8) : more hs (l ++ m) = more (more hs l).1 ((more hs l).2 ++ m) := more_app_n _ hs l m (Nat.le_refl _)
theorem more_tail_n : ∀ (n : Nat) (hs : List Int) (l : List UInt8), l.length ≤ n → ∃ k, k ≤ l.length ∧ (more hs l).2 = l.drop k := by
  intro n
  induction n with
  | zero => intro hs l h; exact ⟨0, by omega, by rw [more_short hs l (by omega)]; rfl⟩
  | succ n ih =>
    intro hs l h
    by_cases hl : l.length < 64
    · exact ⟨0, by omega, by rw [more_short hs l hl]; rfl⟩
    · obtain ⟨k, hk, he⟩ := ih (blk hs l) (l.drop 64) (by simp; omega)
      rw [List.length_drop] at hk
      exact ⟨64 + k, by omega, by rw [more_long hs l (by omega), he, List.drop_drop]⟩
theorem more_tail (hs : List Int) (l : List UInt8) : (more hs l).2 = l.drop (l.length - (more hs l).2.length) := by
  obtain ⟨k, hk, he⟩ := more_tail_n _ hs l (Nat.le_refl _)
  rw [he, List.length_drop]
  congr 1
  omega
theorem more_two (hs : List Int) (l : List UInt8) : (more hs l).2.length < 64 := by
  rw [more_rest _ _ _ (Nat.le_refl _)]
  omega
/-- What Add answers, as numbers. -/
def addT (hs : List Int) (n : Int) (r s : ByteArray) : (List Int × Int × ByteArray) × Int :=
  if rightB n r.size then if (s.size : Int) < 1152921504606846976 - n then (((more hs (r.data.toList ++ s.data.toList)).1, n + s.size, bs (more hs (r.data.toList ++ s.data.toList)).2), 0) else (([0, 0, 0, 0, 0, 0, 0, 0], 0, bs []), 2)
  else (([0, 0, 0, 0, 0, 0, 0, 0], 0, bs []), 6)
theorem addP_T (hs : List Int) (n : Int) (r s : ByteArray) : addP hs n r s = (shaV (addT hs n r s).1.1 (addT hs n r s).1.2.1 (addT hs n r s).1.2.2, (addT hs n r s).2) := by
  unfold addP addT
  split
  · split <;> rfl
  · rfl
theorem addT_length (hs : List Int) (hl : hs.length = 8) (n : Int) (r s : ByteArray) : (addT hs n r s).1.1.length = 8 := by
  unfold addT
  split
  · split
    · exact more_length _ hl _
    · rfl
  · rfl
theorem addT_count (hs : List Int) (n : Int) (r s : ByteArray) (h0 : 0 ≤ n) : 0 ≤ (addT hs n r s).1.2.1 ∧ (addT hs n r s).1.2.1 < 18446744073709551616 := by
  unfold addT
  split
  · split
    · constructor <;> (simp only []; omega)
    · constructor <;> (simp only []; omega)
  · constructor <;> (simp only []; omega)
theorem addT_rest (hs : List Int) (n : Int) (r s : ByteArray) : (addT hs n r s).1.2.2.size < 64 := by
  unfold addT
  split
  · split
    · rw [bs_size]; exact more_two _ _
    · simp [bs_size]
  · simp [bs_size]
/-- Add, its answer as numbers. -/
theorem add_T (hs : List Int) (hl : hs.length = 8) (n : Int) (r s : ByteArray) (w : World) (hK : Ks w) (hr : r.size + s.size ≤ 281474976710656) (hn0 : 0 ≤ n) (hn : n < 18446744073709551616)
    {a1 b1 c1 d1 e1 f1 g1 h1 n1 : Int} {r1 : ByteArray} {z1 : Int} (hz : addT hs n r s = (([a1, b1, c1, d1, e1, f1, g1, h1], n1, r1), z1)) :
    Calls Tryd.prog 13 #[shaV hs n r, .string s] w fun e' w' => e' = .returned (.tuple #[.agg #[.int .u32 a1, .int .u32 b1, .int .u32 c1, .int .u32 d1, .int .u32 e1, .int .u32 f1, .int .u32 g1, .int .u32 h1, .int .u64 n1, .string r1], .int .i64 z1]) ∧ Below w.heap.size w w' := by
  have h := add_any hs hl n r s w hK hr hn0 hn
  rw [addP_T, hz] at h
  exact h
theorem ten_cells {w : World} {g : Nat} {t : TypeId} {v0 v1 v2 v3 v4 v5 v6 v7 v8 v9 : Value} (h : IsBlk w g #[v0, v1, v2, v3, v4, v5, v6, v7, v8, v9] t) :
    w.cell? ⟨g, 0, none⟩ = some v0 ∧ w.cell? ⟨g, 1, none⟩ = some v1 ∧ w.cell? ⟨g, 2, none⟩ = some v2 ∧ w.cell? ⟨g, 3, none⟩ = some v3 ∧ w.cell? ⟨g, 4, none⟩ = some v4 ∧ w.cell? ⟨g, 5, none⟩ = some v5 ∧ w.cell? ⟨g, 6, none⟩ = some v6 ∧ w.cell? ⟨g, 7, none⟩ = some v7 ∧ w.cell? ⟨g, 8, none⟩ = some v8 ∧ w.cell? ⟨g, 9, none⟩ = some v9 :=
  ⟨h.cell rfl, h.cell rfl, h.cell rfl, h.cell rfl, h.cell rfl, h.cell rfl, h.cell rfl, h.cell rfl, h.cell rfl, h.cell rfl⟩
theorem ten_set {w : World} {g : Nat} {t : TypeId} {v0 v1 v2 v3 v4 v5 v6 v7 v8 v9 : Value} (h : IsBlk w g #[v0, v1, v2, v3, v4, v5, v6, v7, v8, v9] t) (u0 u1 u2 u3 u4 u5 u6 u7 u8 u9 : Value) :
    IsBlk ((((((((((w.setCell ⟨g, 0, none⟩ u0).setCell ⟨g, 1, none⟩ u1).setCell ⟨g, 2, none⟩ u2).setCell ⟨g, 3, none⟩ u3).setCell ⟨g, 4, none⟩ u4).setCell ⟨g, 5, none⟩ u5).setCell ⟨g, 6, none⟩ u6).setCell ⟨g, 7, none⟩ u7).setCell ⟨g, 8, none⟩ u8).setCell ⟨g, 9, none⟩ u9) g #[u0, u1, u2, u3, u4, u5, u6, u7, u8, u9] t := by
  have := (((((((((h.set 0 u0).set 1 u1).set 2 u2).set 3 u3).set 4 u4).set 5 u5).set 6 u6).set 7 u7).set 8 u8).set 9 u9
  simpa using this
theorem ten_other {w : World} {g g' : Nat} {t : TypeId} {cs : Array Value} (h : IsBlk w g' cs t) (hne : g' ≠ g) (u0 u1 u2 u3 u4 u5 u6 u7 u8 u9 : Value) :
    IsBlk ((((((((((w.setCell ⟨g, 0, none⟩ u0).setCell ⟨g, 1, none⟩ u1).setCell ⟨g, 2, none⟩ u2).setCell ⟨g, 3, none⟩ u3).setCell ⟨g, 4, none⟩ u4).setCell ⟨g, 5, none⟩ u5).setCell ⟨g, 6, none⟩ u6).setCell ⟨g, 7, none⟩ u7).setCell ⟨g, 8, none⟩ u8).setCell ⟨g, 9, none⟩ u9) g' cs t := by
  iterate 10 refine IsBlk.set_other ?_ (by simpa using hne.symm) _
  exact h
theorem ten_below {B g : Nat} {w0 w : World} (h : Below B w0 w) (hb : B ≤ g) (u0 u1 u2 u3 u4 u5 u6 u7 u8 u9 : Value) :
    Below B w0 ((((((((((w.setCell ⟨g, 0, none⟩ u0).setCell ⟨g, 1, none⟩ u1).setCell ⟨g, 2, none⟩ u2).setCell ⟨g, 3, none⟩ u3).setCell ⟨g, 4, none⟩ u4).setCell ⟨g, 5, none⟩ u5).setCell ⟨g, 6, none⟩ u6).setCell ⟨g, 7, none⟩ u7).setCell ⟨g, 8, none⟩ u8).setCell ⟨g, 9, none⟩ u9) := by
  iterate 10 refine below_set ?_ hb
  exact h
end Go.Proofs.YtpnahmbhpbdpiaaDoor

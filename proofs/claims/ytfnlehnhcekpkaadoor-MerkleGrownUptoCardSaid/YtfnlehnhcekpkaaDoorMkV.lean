/- slices.Backward of texts; merkle.Top. Conditions: peaks' texts no longer than 2^40 bytes; the tables read as the texts lay them. -/
import Derived.Test.YtfnlehnhcekpkaaDoorMkU
import Derived.RangeFuncNested
import Derived.RangeFuncBound
import Derived.RangeFuncCalls
import Derived.RangeFuncLeaves
import Derived.Shelf.Abstract
import Derived.Shelf.RegionOpen
import Derived.WalkKit
import Derived.OwnWalkIn
import Derived.TacticsInMore
import Derived.LoopNIn
import Derived.LoopIn
set_option linter.unusedVariables false
set_option linter.unusedSimpArgs false
namespace Go.Proofs.YtfnlehnhcekpkaaDoor
open Go Go.RowKit Go.BigFrame Go.Shelf
set_option maxRecDepth 100000
attribute [local go_sem] Oper.semAt_some

/-- A digest by its length. -/
abbrev D32 : Type := { s : List UInt8 // s.length = 32 }
def d32 : D32 := ⟨List.replicate 32 0, by simp⟩
def encB (x : Nat × D32) : Array Value := #[.int .i64 (x.1 : Int), .string (bs x.2.1)]
/-- What comes at the j-th round, from the last on. -/
def backF (zs : List D32) (j : Nat) : Nat × D32 := (zs.length - 1 - j, zs[zs.length - 1 - j]?.getD d32)
def uptoB (zs : List D32) (k : Nat) : List (Nat × D32) := (List.range k).map (backF zs)
theorem uptoB_succ (zs : List D32) (k : Nat) : uptoB zs (k + 1) = uptoB zs k ++ [backF zs k] := by simp [uptoB, List.range_succ]
theorem uptoB_length (zs : List D32) (k : Nat) : (uptoB zs k).length = k := by simp [uptoB]
/-- What a round keeps: all blocks below N but one. -/
def KeptN (N bx : Nat) (W W' : World) : Prop := W.heap.size ≤ W'.heap.size ∧ ∀ b, b < N → b ≠ bx → W'.heap[b]? = W.heap[b]?
theorem KeptN.refl (N bx : Nat) (W : World) : KeptN N bx W W := ⟨Nat.le_refl _, fun _ _ _ => rfl⟩
theorem KeptN.trans {N bx : Nat} {A B C : World} (h : KeptN N bx A B) (k : KeptN N bx B C) : KeptN N bx A C := ⟨Nat.le_trans h.1 k.1, fun b hb hne => (k.2 b hb hne).trans (h.2 b hb hne)⟩
theorem KeptN.cell {N bx b o : Nat} {A B : World} (h : KeptN N bx A B) (hb : b < N) (hne : b ≠ bx) : B.cell? ⟨b, o, none⟩ = A.cell? ⟨b, o, none⟩ := by
  unfold World.cell?
  rw [h.2 b hb hne]
theorem KeptN.put {N bx : Nat} (W : World) (l : Nat) (o o' : Obj) (hl : N ≤ l) (h : W.heap[l]? = some o) : KeptN N bx W (W.putObj l o') :=
  ⟨by simp, fun b hb _ => World.putObj_heap_other (by omega)⟩
set_option maxHeartbeats 4000000 in
theorem backward1_in (F : Fence) (n : Nat) (hF : F.fn 55) (hro : F.round = none) (hn : 1 ≤ n) (l Bs N bx : Nat) (p : Option Addr) (cap : Nat) (zs : List D32) (hzl : zs.length ≤ 1099511627776) (hBs : Bs < N) (hBx : Bs ≠ bx) (J Jx : List (Nat × D32) → World → Prop)
    (hY : ∀ pre x W, J pre W → pre.length < zs.length → YieldAt F (n - 1) Tryd.prog l (encB x) W fun e W' =>
      (e = .returned (.bool true) ∧ J (pre ++ [x]) W' ∧ KeptN N bx W W') ∨ (e = .returned (.bool false) ∧ Jx (pre ++ [x]) W'))
    (W : World) (hc : W.cell? ⟨Bs, 0, none⟩ = some (.slice p zs.length cap)) (hS : HasS (fun x => x < N ∧ x ≠ bx) W p (zs.map (·.1))) (h0 : J [] W) :
    CallsIn F n Tryd.prog 55 #[.func (.yield l) #[] #[], .pointer (some ⟨Bs, 0, none⟩)] W fun e W' => (∃ v, e = .returned v) ∧
      ((∃ ys, ys = uptoB zs zs.length ∧ J ys W') ∨ (∃ pre, (∃ k, k ≤ zs.length ∧ pre = uptoB zs k) ∧ Jx pre W')) := by
  refine callsIn_of_wp Tryd.func55 rfl hF ?_ hro
  simp only [Tryd.ntmps55, List.size_toArray, List.length_cons, List.length_nil, Nat.reduceAdd, Nat.reduceSub, Array.replicate_succ, Array.replicate_zero, List.push_toArray, List.append_toArray, List.nil_append, List.cons_append]
  gi_wp2
  gi_loopw [3] (fun i wr => ∃ k : Nat, k ≤ zs.length ∧ i = .int .i64 ((zs.length : Int) - 1 - k) ∧ J (uptoB zs k) wr ∧ KeptN N bx W wr) (fun i _ => (intOf i + 1).toNat)
  case atStart => exact ⟨0, Nat.zero_le _, by simp, h0, KeptN.refl _ _ _⟩
  case round =>
    obtain ⟨k, hk, rfl, hJs, hkp⟩ := hrel
    by_cases hlt : k < zs.length
    · obtain ⟨fn, tmps, assign, body, hy, hR⟩ := hY _ (backF zs k) wr hJs (by rw [uptoB_length]; exact hlt)
      have hi : zs.length - 1 - k < (zs.map (·.1)).length := by rw [List.length_map]; omega
      obtain ⟨g, o, rfl, ⟨hg1, hg2⟩, _, hcc⟩ := hS _ hi
      have hcx := (hkp.cell (o := o + (zs.length - 1 - k)) hg1 hg2).trans hcc
      have hcb := (hkp.cell (o := 0) hBs hBx).trans hc
      have hval : (zs.map (·.1))[zs.length - 1 - k] = (zs[zs.length - 1 - k]?.getD d32).1 := by
        rw [List.getElem_map, List.getElem?_eq_getElem (by omega)]
        rfl
      rw [hval] at hcx
      have hidx : (zs.length : Int) - 1 - k = ((zs.length - 1 - k : Nat) : Int) := by omega
      dsimp only [encB, backF] at hy
      have HIDX := Lib.hid hidx
      obtain ⟨v, hv⟩ : ∃ v, v = bs (zs[zs.length - 1 - k]?.getD d32).1 := ⟨_, rfl⟩
      rw [← hv] at hy hcx
      obtain ⟨m, hm⟩ : ∃ m, m = zs.length - 1 - k := ⟨_, rfl⟩
      rw [← hm] at hy hcx
      rw [hidx, ← hm]
      have hml : m < zs.length := by omega
      have HM := Lib.hid hm
      have HKP := Lib.hid hkp
      clear hidx hval hcc hv hi hm hkp hc hS
      gi_wp2
      refine hR.mono ?_
      rintro e W3 (⟨rfl, hJ3, hk3⟩ | ⟨rfl, hJx3⟩)
      · gi_wp2
        go_roundw
        case rel => exact ⟨k + 1, by omega, by rw [HM.out]; congr 1; omega, by rw [uptoB_succ]; exact hJ3, HKP.out.trans hk3⟩
        case measure => first | (simp [intOf]; done) | (simp [intOf]; omega)
      · gi_wp2
        refine bodyPost_ret (results_none rfl _ _ _) rfl ?_
        exact ⟨⟨_, rfl⟩, .inr ⟨_, ⟨k + 1, by omega, (uptoB_succ _ _).symm⟩, hJx3⟩⟩
    · obtain rfl : k = zs.length := by omega
      rw [show (zs.length : Int) - 1 - (zs.length : Int) = -1 by omega]
      gi_wp2
      go_end0
      exact ⟨⟨_, rfl⟩, .inl ⟨_, rfl, hJs⟩⟩
theorem back_in (F : Fence) (n : Nat) (hF : F.fn 32) (hro : F.round = none) (a : Option Addr) (len cap : Nat) (w : World) :
    CallsIn F n Tryd.prog 32 #[.slice a len cap] w fun e w' => e = .returned (.func (.func 55) #[] #[.pointer (some ⟨w.heap.size, 0, none⟩)]) ∧ w' = w.alloc (.cells #[.slice a len cap] 22) := by
  have hmf : ∀ (fn : Fn) (first cap : Array Value) (w : World), (Instr.makeFunc fn first cap).run Tryd.prog w = .ok (.func fn first cap) w := fun _ _ _ _ => rfl
  refine callsIn_of_wp Tryd.func32 rfl hF ?_ hro
  simp only [Tryd.ntmps32, List.size_toArray, List.length_cons, List.length_nil, Nat.reduceAdd, Nat.reduceSub, Array.replicate_succ, Array.replicate_zero, List.push_toArray, List.append_toArray, List.nil_append, List.cons_append]
  gi_wp2
  go_ret
  exact ⟨rfl, rfl⟩
theorem back_stops (F : Fence) (n : Nat) (hF : F.fn 55) (hro : F.round = none) (hn : 1 ≤ n) (Bs N bx : Nat) (p : Option Addr) (cap : Nat) (zs : List D32) (hzl : zs.length ≤ 1099511627776) (hBs : Bs < N) (hBx : Bs ≠ bx) (w : World) (hN : N ≤ w.heap.size)
    (hc : w.cell? ⟨Bs, 0, none⟩ = some (.slice p zs.length cap)) (hS : HasS (fun x => x < N ∧ x ≠ bx) w p (zs.map (·.1))) :
    SeqStopsK F n Tryd.prog 55 #[.pointer (some ⟨Bs, 0, none⟩)] encB (KeptN N bx) (fun ys => ys = uptoB zs zs.length) (fun _ => True) zs.length w := fun l J Jx W hW _ _ hY h0 => by
  refine (backward1_in F n hF hro hn l Bs N bx p cap zs hzl hBs hBx J Jx hY W ((hW.cell (p := ⟨Bs, 0, none⟩) (by show Bs < w.heap.size; omega)).trans hc) (hS.ext hW) h0).mono ?_
  rintro e W' ⟨he, ⟨ys, rfl, hj⟩ | ⟨pre, _, hj⟩⟩
  · exact ⟨he, .inl ⟨_, rfl, hj⟩⟩
  · exact ⟨he, .inr ⟨_, trivial, hj⟩⟩
/-- A function's contract where its body holds a range over a function. -/
theorem calls_of_marks {P : Program} {f : FuncId} {fn : Func} {c : Code} {args : Array Value} {w : World} {R : Ending → World → Prop} (hf : P.funcs[f]? = some fn) (hb : fn.body = some c)
    (h : c.wp P (bodyPostM Fence.wide 8 P fn R) { tmps := args ++ Array.replicate (fn.ntmps - args.size) undef, defers := [] } w) : Calls P f args w R :=
  (callsIn_wide (n := 8)).1 (callsIn_of_wp_marks hf hb trivial (wpIn_wide.2 h))
theorem marks_ret {P : Program} {fn : Func} {R : Ending → World → Prop} {a : Act} {w : World} {v : Value} (hr : (results fn a.tmps).run P w = .ok v w) (hd : a.defers = []) (h : R (.returned v) w) : bodyPostM Fence.wide 8 P fn R .ret a w := by
  show LeavesInM Fence.wide 8 P fn a.tmps R a.defers .returning w
  rw [hd]
  exact ⟨v, hr, h⟩
theorem marks_ret1 {P : Program} {fn : Func} {R : Ending → World → Prop} {a : Act} {w : World} {v : Value} {D : Nat} (hK : w.heap[D]? = some (.deferred (some []))) (hr : (results fn a.tmps).run P (w.putObj D (.deferred none)) = .ok v (w.putObj D (.deferred none))) (hd : a.defers = [{ target := .collected D, args := #[] }]) (h : R (.returned v) (w.putObj D (.deferred none))) : bodyPostM Fence.wide 8 P fn R .ret a w := by
  show LeavesInM Fence.wide 8 P fn a.tmps R a.defers .returning w
  rw [hd]
  exact ⟨by simp, .inl ⟨_, _, rfl, run_takeDeferred hK, v, hr, h⟩⟩
theorem of_dig32 : ∀ (l : List (List UInt8)), dig32 l = true → ∃ zs : List D32, zs.map (·.1) = l
  | [], _ => ⟨[], rfl⟩
  | s :: l, h => by
    have h' : (s.length == 32 && dig32 l) = true := h
    simp only [Bool.and_eq_true, beq_iff_eq] at h'
    obtain ⟨zs, hz⟩ := of_dig32 l h'.2
    exact ⟨⟨s, h'.1⟩ :: zs, by rw [List.map_cons, hz]⟩
/-- What comes of going on with some digests. -/
def foldN (x : List UInt8) (pre : List (Nat × D32)) : List UInt8 := pre.foldl (fun x p => nodeL p.2.1 x) x
theorem foldN_snoc (x : List UInt8) (pre : List (Nat × D32)) (y : Nat × D32) : foldN x (pre ++ [y]) = nodeL y.2.1 (foldN x pre) := by simp [foldN]
theorem foldN_length {x : List UInt8} (hx : x.length = 32) (pre : List (Nat × D32)) : (foldN x pre).length = 32 := by
  rcases List.eq_nil_or_concat pre with rfl | ⟨p, y, rfl⟩
  · exact hx
  · rw [List.concat_eq_append, foldN_snoc]
    exact nodeL_length _ _
/-- The digests from the last to the first, each beside what is made so far. -/
def foldT (x : List UInt8) (l : List (List UInt8)) : List UInt8 := l.foldr nodeL x
theorem foldT_snoc (x : List UInt8) (l : List (List UInt8)) (t : List UInt8) : foldT x (l ++ [t]) = foldT (nodeL t x) l := by simp [foldT]
theorem foldN_upto (x : List UInt8) (zs : List D32) : ∀ k, k ≤ zs.length → foldN x (uptoB zs k) = foldT x ((zs.map (·.1)).drop (zs.length - k)) := by
  intro k
  induction k with
  | zero => intro _; rw [Nat.sub_zero, List.drop_eq_nil_of_le (by simp)]; rfl
  | succ k ih =>
    intro hk
    rw [uptoB_succ, foldN_snoc, ih (by omega), List.drop_eq_getElem_cons (i := zs.length - (k + 1)) (by rw [List.length_map]; omega), show zs.length - (k + 1) + 1 = zs.length - k by omega]
    show _ = nodeL _ _
    congr 1
    unfold backF
    rw [List.getElem_map, show zs.length - 1 - k = zs.length - (k + 1) by omega, List.getElem?_eq_getElem (by omega)]
    rfl
theorem foldN_all (x : List UInt8) (zs : List D32) : foldN x (uptoB zs zs.length) = foldT x (zs.map (·.1)) := by
  rw [foldN_upto x zs _ (Nat.le_refl _), Nat.sub_self, List.drop_zero]
theorem onesN_pos : ∀ c, c < 1025 → 0 < c → 1 ≤ onesN c := by decide +kernel
theorem keepsOthers_below {W W' : World} (h : Below W.heap.size W W') : KeepsOthers W W' := ⟨h.size, fun k o hk _ => (h.block k (Array.getElem?_eq_some_iff.1 hk).1).trans hk⟩
/-- The top of peaks. -/
def topL (tops : List (List UInt8)) : List UInt8 := foldT (tops.getLast?.getD []) tops.dropLast
def TopPost (c : Int) (tops : List (List UInt8)) (w : World) (e' : Ending) (w' : World) : Prop :=
  e' = .returned (.tuple (if peaksB c tops = false then #[.string (bs []), .int .i64 6] else if c = 0 then #[.string (bs (shaL [])), .int .i64 0] else #[.string (bs (topL tops)), .int .i64 0])) ∧ Below w.heap.size w w'
set_option maxHeartbeats 8000000 in
theorem top_any (c : Int) (tops : List (List UInt8)) (S : Nat → Prop) (p : Option Addr) (cap : Nat) (w : World) (hK : Ks w) (hcap : tops.length ≤ cap) (hs : HasS S w p tops) (hn : tops.length ≤ 1099511627776) (hts : ∀ s ∈ tops, s.length ≤ 1099511627776) :
    Calls Tryd.prog 13 #[.agg #[.int .i64 c, .slice p tops.length cap]] w (TopPost c tops w) := by
  have hW : IsBlk (w.alloc (.cells #[.int .i64 c, .slice p tops.length cap] 24)) w.heap.size #[.int .i64 c, .slice p tops.length cap] 24 := IsBlk.new _ _ _
  have hbw : Below w.heap.size w (w.alloc (.cells #[.int .i64 c, .slice p tops.length cap] 24)) := (Below.refl _ _).alloc (Nat.le_refl _) _
  have HR := Lib.hid (peaks_any c tops S p cap _ (hs.ext hbw) hn hts)
  have HS := Lib.hid hs
  have HK := Lib.hid hK
  obtain ⟨n, hnl⟩ : ∃ n, n = tops.length := ⟨_, rfl⟩
  rw [← hnl] at hW hbw HR hcap hn ⊢
  have HN := Lib.hid hnl
  have HW := Lib.hid hW
  have HBW := Lib.hid hbw
  clear hs hK hts hnl hW hbw
  unfold TopPost
  obtain ⟨B, hB⟩ : ∃ B, B = peaksB c tops := ⟨_, rfl⟩
  rw [← hB] at HR ⊢
  have HB := Lib.hid hB
  clear hB
  refine calls_of_marks Tryd.func13 rfl ?_
  simp only [Tryd.ntmps13, List.size_toArray, List.length_cons, List.length_nil, Nat.reduceAdd, Nat.reduceSub, Array.replicate_succ, Array.replicate_zero, List.push_toArray, List.append_toArray, List.nil_append, List.cons_append]
  go_wp2_with fail
  go_at_call 29
  refine HR.out.mono ?_
  rintro e' w2 ⟨rfl, hb2⟩
  have HB2 := Lib.hid (HBW.out.trans (hb2.mono HBW.out.size))
  have hW2 := HW.out.ext hb2
  have x0 := hW2.cell (i := 0) rfl
  have x1 := hW2.cell (i := 1) rfl
  have HW2 := Lib.hid hW2
  clear hb2 hW2
  cases B
  · go_wp2
    refine marks_ret (results_tmp2 rfl _ _ _) rfl ⟨rfl, HB2.out⟩
  by_cases h0 : c = 0
  · subst h0
    go_wp2_with fail
    go_at_call 23
    refine (sum_l [] _ rfl _ (HK.out.ext HB2.out) (by simp)).mono ?_
    rintro e' w3 ⟨rfl, hb3⟩
    have HB3 := Lib.hid (HB2.out.trans (hb3.mono HB2.out.size))
    clear hb3
    go_wp2
    refine marks_ret (results_tmp2 rfl _ _ _) rfl ⟨rfl, HB3.out⟩
  have q0 : (c == 0) = false := by rw [beq_eq_false_iff_ne]; exact h0
  have hpk : peaksB c tops = true := HB.out.symm
  have hpk2 := hpk
  unfold peaksB at hpk
  simp only [Bool.and_eq_true, decide_eq_true_eq] at hpk
  obtain ⟨hc0, hc1, hlen, hdig⟩ := hpk
  have hn1 : 1 ≤ n := by rw [HN.out, hlen]; exact onesN_pos _ (by omega) (by omega)
  obtain ⟨zs, hzs⟩ := of_dig32 tops hdig
  have hat : n - 1 < tops.length := by rw [← HN.out]; omega
  obtain ⟨g, o, rfl, _, hg, hcl⟩ := HS.out (n - 1) hat
  have hcl2 := (HB2.out.cell (p := ⟨g, o + (n - 1), none⟩) hg).trans hcl
  have hl32 : tops[n - 1].length = 32 := by
    have h := hdig
    unfold dig32 at h
    rw [List.all_eq_true] at h
    simpa using h _ (List.getElem_mem hat)
  have htop : topL tops = foldT tops[n - 1] tops.dropLast := by
    unfold topL
    rw [List.getLast?_eq_getElem?, ← HN.out, List.getElem?_eq_getElem hat]
    rfl
  generalize tops[n - 1] = t0 at hcl2 hl32 htop
  have HTOP := Lib.hid htop
  have HPK := Lib.hid hpk2
  obtain ⟨m, rfl⟩ : ∃ m, n = m + 1 := ⟨n - 1, by omega⟩
  rw [Nat.add_sub_cancel] at hcl2
  clear hcl hpk2 hlen hdig htop hat hc1 hn1
  have hmc : (m : Int) ≤ (cap : Int) := by omega
  have hlt2 := HW2.out.lt
  have hg2 : g < w2.heap.size := by have := HB2.out.size; omega
  go_wp2_with fail
  go_at_call 32
  refine ((callsIn_wide (n := 8)).1 (back_in Fence.wide 8 trivial rfl _ _ _ _)).mono ?_
  rintro e' w3 ⟨rfl, rfl⟩
  go_wp2_with fail
  obtain ⟨wl, hwl⟩ : ∃ wl, wl = (w2.alloc (.cells #[.string (bs t0)] 9)).alloc (.cells #[.slice (some ⟨g, o, none⟩) m cap] 22) := ⟨_, rfl⟩
  rw [← hwl]
  have hX : IsBlk wl w2.heap.size #[.string (bs t0)] 9 := by rw [hwl]; exact (IsBlk.new _ _ _).alloc _
  have hBk : IsBlk wl (w2.heap.size + 1) #[.slice (some ⟨g, o, none⟩) m cap] 22 := by rw [hwl]; exact IsBlk.new_at (by simp)
  have hszl : wl.heap.size = w2.heap.size + 2 := by rw [hwl]; simp
  have hb2l : Below w2.heap.size w2 wl := by rw [hwl]; exact ((Below.refl _ _).alloc (Nat.le_refl _) _).alloc (by simp) _
  have hbl : Below w.heap.size w wl := HB2.out.trans (hb2l.mono HB2.out.size)
  have hszw := hbl.size
  clear hwl
  have hzl : zs.length = m + 1 := by rw [HN.out, ← hzs, List.length_map]
  have hzd : (zs.take m).length = m := by rw [List.length_take]; omega
  have hSd : HasS (fun x => x < wl.heap.size ∧ x ≠ w2.heap.size) wl (some ⟨g, o, none⟩) ((zs.take m).map (·.1)) := by
    rw [List.map_take, hzs]
    have h1 : HasS (fun x => x < w2.heap.size) w (some ⟨g, o, none⟩) tops := fun i hi => by
      obtain ⟨g', o', q1, q2, q3, q4⟩ := HS.out i hi
      exact ⟨g', o', q1, by have := HB2.out.size; omega, q3, q4⟩
    exact ((h1.take m).ext_to (fun b hb => (⟨by omega, by omega⟩ : b < wl.heap.size ∧ b ≠ w2.heap.size)) (fun b hb hlt => hbl.block b hlt))
  refine (wpIn_wide (n := 8)).1 ?_
  refine wpIn_rangeFunc_ownF (F := Fence.wide) rfl (by omega) (gf := 55) (lb := #[.pointer (some ⟨w2.heap.size + 1, 0, none⟩)]) rfl trivial (enters_of Tryd.func55 (by kernel_rfl) rfl)
    (back_stops Fence.wide (8 - 1) trivial rfl (by omega) (w2.heap.size + 1) wl.heap.size w2.heap.size (some ⟨g, o, none⟩) cap (zs.take m) (by omega) (by omega) (by omega) wl (Nat.le_refl _) (by rw [hzd]; exact hBk.cell rfl) hSd) KeptN.trans (fun W l o o' hl h _ _ => KeptN.put W l o o' hl h) (Below.refl _ _) (fun _ => rfl)
    (fun pre W => (W.cell? ⟨w2.heap.size, 0, none⟩ = some (.string (bs (foldN t0 pre))) ∧ W.frozen? ⟨w2.heap.size, 0, none⟩ = false) ∧ Below w.heap.size wl W)
    (fun _ _ _ => False)
    (OwnFrom.and (Own.from (fun s A B row hs hg hr => ⟨cell_kept hs.1 hg hr, (frozen_kept hs.1 hg hr).trans hs.2⟩) _) (ownFrom_below hszw hszw))
    (fun _ _ _ _ _ hs _ _ => hs)
    ⟨⟨hX.cell rfl, hX.frozen 0⟩, Below.refl _ _⟩
    (fun x => { tmps := #[.agg #[.int .i64 c, .slice (some ⟨g, o, none⟩) (m + 1) cap], .pointer (some ⟨w.heap.size, 0, none⟩), .string { data := #[] }, .int .i64 0, .int .i64 (m : Int), .pointer (some ⟨w2.heap.size, 0, none⟩), undef, .string (bs x.2.1), .agg #[.int .i64 c, .slice (some ⟨g, o, none⟩) (m + 1) cap], .bool true, .bool false, .pointer (some ⟨w.heap.size, 0, none⟩), .int .i64 c, .bool false, undef, .pointer (some ⟨w.heap.size, 1, none⟩), .slice (some ⟨g, o, none⟩) (m + 1) cap, .int .i64 ((m : Int) + 1), .int .i64 (m : Int), .pointer (some ⟨w.heap.size, 1, none⟩), .slice (some ⟨g, o, none⟩) (m + 1) cap, .int .i64 (m : Int), .pointer (some ⟨g, o + m, none⟩), .string (bs t0), .pointer (some ⟨w.heap.size, 1, none⟩), .slice (some ⟨g, o, none⟩) (m + 1) cap, .int .i64 (m : Int), .slice (some ⟨g, o, none⟩) m cap, .func (.func 55) #[] #[.pointer (some ⟨w2.heap.size + 1, 0, none⟩)], .int .i64 (x.1 : Int), .string (bs x.2.1), undef, undef, undef, undef], defers := [] }) ?assign ?body ?done ?stop
  case assign =>
    intro l x W K hK
    simp only [encB]
    gi_wp2
    exact hK
  case body =>
    rintro l pre x W ⟨⟨hc, hf⟩, hB⟩ _
    have hKW : Ks W := HK.out.ext (hbl.trans hB)
    have hfl := foldN_length hl32 pre
    have hxl := x.2.2
    have hWl : w2.heap.size < W.heap.size := by have := hB.size; omega
    have HF := Lib.hid (⟨hc, hf⟩ : W.cell? ⟨w2.heap.size, 0, none⟩ = some (.string (bs (foldN t0 pre))) ∧ W.frozen? ⟨w2.heap.size, 0, none⟩ = false)
    gi_wp2_with (refine ⟨trivial, ?_⟩; gi_at_call 33; refine (CallsIn.inRound l (callsIn_wide.2 (node_any x.2.1 (foldN t0 pre) W hKW (by omega) (by omega)))).mono ?_; rintro e W1 ⟨rfl, hb⟩; have hc1 := (hb.cell (p := ⟨w2.heap.size, 0, none⟩) hWl).trans HF.out.1; have hf1 := (hb.frozen (p := ⟨w2.heap.size, 0, none⟩) hWl).trans HF.out.2)
    have hszB := hB.size
    refine ⟨(keepsOthers_below hb).trans (KeepsOthers.setCell _ _ _), ⟨?_, fun b hbl hne => ?_⟩, ⟨?_, ?_⟩, ?_⟩
    · simpa using hb.size
    · rw [Below.heap_setCell _ _ _ _ hne]
      exact hb.block b (by omega)
    · rw [foldN_snoc]
      exact World.cell?_setCell_same' _ _ _ (by rw [hc1]; rfl)
    · rw [World.frozen?_setCell]
      exact hf1
    · exact below_set (hB.trans (hb.mono (by omega))) HB2.out.size
  case done =>
    rintro D ys W hD rfl ⟨⟨hc, _⟩, hB⟩ hK
    have hfin : foldN t0 (uptoB (zs.take m) (zs.take m).length) = topL tops := by
      rw [foldN_all, HTOP.out, List.map_take, hzs, List.dropLast_eq_take, ← HN.out]
      rfl
    rw [hfin] at hc
    clear hfin
    go_wp2
    exact marks_ret1 hK (results_tmp2 rfl _ _ _) rfl ⟨rfl, (hbl.trans hB).trans (belowK_b (w := wl) hszw W D _ _ hD hK rfl rfl)⟩
  case stop =>
    rintro D c pre W _ _ h _
    exact h.elim
end Go.Proofs.YtfnlehnhcekpkaaDoor

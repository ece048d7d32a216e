/- merkle.Grew. Conditions: texts no longer than 2^40 bytes; the table of constants reads as the text lays it. -/
import Derived.Test.YtfnlehnhcekpkaaDoorMkL
set_option linter.unusedVariables false
set_option linter.unusedSimpArgs false
namespace Go.Proofs.YtfnlehnhcekpkaaDoor
open Go Go.RowKit Go.BigFrame
set_option maxRecDepth 100000

/-- The steps from the root down to where the first m texts end: whether it lies right. -/
def inF : Nat → Nat → Nat → Nat → List Bool
  | 0, _, _, _ => []
  | f + 1, a, n, m => if a + n ≤ m then [] else if a + halfN n < m then true :: inF f (a + halfN n) (n - halfN n) m else false :: inF f a (halfN n) m
/-- Where the last part begins. -/
def endF : Nat → Nat → Nat → Nat → Nat
  | 0, a, _, _ => a
  | f + 1, a, n, m => if a + n ≤ m then a else if a + halfN n < m then endF f (a + halfN n) (n - halfN n) m else endF f a (halfN n) m
theorem inF_fuel : ∀ (f g a n m : Nat), n ≤ f → n ≤ g → n ≤ 1099511627776 → a < m → m ≤ a + n → inF f a n m = inF g a n m ∧ endF f a n m = endF g a n m := by
  intro f
  induction f with
  | zero => intro g a n m hf hg _ _ _; omega
  | succ f ih =>
    intro g a n m hf hg hn h1 h2
    cases g with
    | zero => omega
    | succ g =>
      rw [inF, inF, endF, endF]
      by_cases h3 : a + n ≤ m
      · rw [if_pos h3, if_pos h3, if_pos h3, if_pos h3]; exact ⟨rfl, rfl⟩
      · rw [if_neg h3, if_neg h3, if_neg h3, if_neg h3]
        obtain ⟨p, q, r⟩ := halfN_fits (n := n) (by omega) hn
        by_cases h4 : a + halfN n < m
        · rw [if_pos h4, if_pos h4, if_pos h4, if_pos h4]
          obtain ⟨i1, i2⟩ := ih g (a + halfN n) (n - halfN n) m (by omega) (by omega) (by omega) (by omega) (by omega)
          rw [i1, i2]; exact ⟨rfl, rfl⟩
        · rw [if_neg h4, if_neg h4, if_neg h4, if_neg h4]
          obtain ⟨i1, i2⟩ := ih g a (halfN n) m (by omega) (by omega) (by omega) (by omega) (by omega)
          rw [i1, i2]; exact ⟨rfl, rfl⟩
def inL (a n m : Nat) : List Bool := inF n a n m
def endL (a n m : Nat) : Nat := endF n a n m
theorem inL_end {a n m : Nat} (h : a + n ≤ m) (h0 : 1 ≤ n) : inL a n m = [] ∧ endL a n m = a := by
  unfold inL endL
  obtain ⟨f, rfl⟩ : ∃ f, n = f + 1 := ⟨n - 1, by omega⟩
  rw [inF, endF, if_pos h, if_pos h]
  exact ⟨rfl, rfl⟩
theorem inL_right {a n m : Nat} (hn : n ≤ 1099511627776) (h1 : a < m) (h2 : m < a + n) (h : a + halfN n < m) : inL a n m = true :: inL (a + halfN n) (n - halfN n) m ∧ endL a n m = endL (a + halfN n) (n - halfN n) m := by
  obtain ⟨p, q, r⟩ := halfN_fits (n := n) (by omega) hn
  unfold inL endL
  obtain ⟨f, rfl⟩ : ∃ f, n = f + 1 := ⟨n - 1, by omega⟩
  obtain ⟨i1, i2⟩ := inF_fuel f (f + 1 - halfN (f + 1)) (a + halfN (f + 1)) (f + 1 - halfN (f + 1)) m (by omega) (by omega) (by omega) (by omega) (by omega)
  have h' : ¬ a + (f + 1) ≤ m := by omega
  rw [inF, endF, if_neg h', if_neg h', if_pos h, if_pos h, i1, i2]
  exact ⟨rfl, rfl⟩
theorem inL_left {a n m : Nat} (hn : n ≤ 1099511627776) (h1 : a < m) (h2 : m < a + n) (h : ¬ a + halfN n < m) : inL a n m = false :: inL a (halfN n) m ∧ endL a n m = endL a (halfN n) m := by
  obtain ⟨p, q, r⟩ := halfN_fits (n := n) (by omega) hn
  unfold inL endL
  obtain ⟨f, rfl⟩ : ∃ f, n = f + 1 := ⟨n - 1, by omega⟩
  obtain ⟨i1, i2⟩ := inF_fuel f (halfN (f + 1)) a (halfN (f + 1)) m (by omega) (by omega) (by omega) (by omega) (by omega)
  have h' : ¬ a + (f + 1) ≤ m := by omega
  rw [inF, endF, if_neg h', if_neg h', if_neg h, if_neg h, i1, i2]
  exact ⟨rfl, rfl⟩
theorem inL_length : ∀ (f a n m : Nat), n ≤ f → n ≤ 1099511627776 → a < m → m ≤ a + n → (inL a n m).length ≤ n := by
  intro f
  induction f with
  | zero => intro a n m h _ _ _; omega
  | succ f ih =>
    intro a n m h hn h1 h2
    by_cases h3 : a + n ≤ m
    · rw [(inL_end h3 (by omega)).1]; simp
    · obtain ⟨p, q, r⟩ := halfN_fits (n := n) (by omega) hn
      by_cases hl : a + halfN n < m
      · rw [(inL_right hn h1 (by omega) hl).1, List.length_cons]
        have := ih (a + halfN n) (n - halfN n) m (by omega) (by omega) (by omega) (by omega)
        omega
      · rw [(inL_left hn h1 (by omega) hl).1, List.length_cons]
        have := ih a (halfN n) m (by omega) (by omega) (by omega) (by omega)
        omega
/-- The elder root and the younger one on the way up. -/
def twoL : List UInt8 → List UInt8 → List (List UInt8) → List Bool → List UInt8 × List UInt8
  | a, b, s :: g, r :: I => if r then twoL (nodeL s a) (nodeL s b) g I else twoL a (nodeL b s) g I
  | a, b, _, _ => (a, b)
theorem twoL_step {a b : List UInt8} {g : List (List UInt8)} {I : List Bool} {j : Nat} (h : j < g.length) (h' : j < I.length) : twoL a b (g.drop j) (I.drop j) = if I[j] then twoL (nodeL g[j] a) (nodeL g[j] b) (g.drop (j + 1)) (I.drop (j + 1)) else twoL a (nodeL b g[j]) (g.drop (j + 1)) (I.drop (j + 1)) := by
  rw [List.drop_eq_getElem_cons h, List.drop_eq_getElem_cons h', twoL]
def endB (old root a : List UInt8) (g : List (List UInt8)) (I : List Bool) : Bool :=
  if g.length ≠ I.length then false else (twoL a a g I.reverse).1 == old && (twoL a a g I.reverse).2 == root
/-- Whether a growth shows something. -/
def grewB (old root : List UInt8) (m n : Int) (g : List (List UInt8)) : Bool :=
  if m < 0 ∨ n < m ∨ 1024 < n ∨ dig32 g = false then false
  else if m = 0 then decide (g.length = 0) && old == shaL []
  else if m = n then decide (g.length = 0) && old == root
  else if 0 < endL 0 n.toNat m.toNat then (if g.length = 0 then false else endB old root (g.headD []) g.tail (inL 0 n.toNat m.toNat))
  else endB old root old g (inL 0 n.toNat m.toNat)
set_option maxHeartbeats 8000000 in
theorem grew_any (old root : List UInt8) (m n : Int) (g : List (List UInt8)) (S : Nat → Prop) (gp : Option Addr) (gc : Nat) (w : World) (hK : Ks w) (hold : old.length ≤ 1099511627776) (hroot : root.length ≤ 1099511627776) (hg : HasS S w gp g) (hcap : g.length ≤ gc) (hgn : g.length ≤ 1099511627776) (hgs : ∀ x ∈ g, x.length ≤ 1099511627776) :
    Calls Tryd.prog 28 #[.string (bs old), .string (bs root), .int .i64 m, .int .i64 n, .slice gp g.length gc] w fun e' w' => e' = .returned (.bool (grewB old root m n g)) ∧ Below w.heap.size w w' := by
  have hso := bs_size old
  have hsr := bs_size root
  obtain ⟨R, hR⟩ : ∃ R, R = grewB old root m n g := ⟨_, rfl⟩
  rw [← hR]
  rw [grewB] at hR
  have HD : Hid (Calls Tryd.prog 44 #[.slice gp g.length gc] w fun e' w' => e' = .returned (.bool (dig32 g)) ∧ w = w') := Lib.hid (digests_any g S gp gc w hg hgn hgs)
  obtain ⟨G, hG⟩ : ∃ G, G = dig32 g := ⟨_, rfl⟩
  rw [← hG] at hR HD
  have HP := Lib.hid hg
  have HK := Lib.hid hK
  have HG := Lib.hid hG
  obtain ⟨np, hnp⟩ : ∃ np, np = g.length := ⟨_, rfl⟩
  rw [← hnp] at hR HD hgn hcap ⊢
  have HNP := Lib.hid hnp
  have HR := Lib.hid hR
  clear hg hgs hK hR hG hnp
  by_cases h1 : m < 0
  · have hd1 : decide (m < 0) = true := decide_eq_true h1
    have HR2 : Hid (R = false) := Lib.hid (by rw [HR.out, if_pos (Or.inl h1)])
    clear HR
    go_enter Tryd.func28, Tryd.ntmps28
    go_wp2
    go_ret
    exact ⟨by rw [HR2.out]; rfl, Below.refl _ _⟩
  have hd1 : decide (m < 0) = false := decide_eq_false h1
  by_cases h2 : n < m
  · have hd2 : decide (n < m) = true := decide_eq_true h2
    have HR2 : Hid (R = false) := Lib.hid (by rw [HR.out, if_pos (Or.inr (Or.inl h2))])
    clear HR
    go_enter Tryd.func28, Tryd.ntmps28
    go_wp2
    go_ret
    exact ⟨by rw [HR2.out]; rfl, Below.refl _ _⟩
  have hd2 : decide (n < m) = false := decide_eq_false h2
  by_cases h3 : 1024 < n
  · have hd3 : decide (1024 < n) = true := decide_eq_true h3
    have HR2 : Hid (R = false) := Lib.hid (by rw [HR.out, if_pos (Or.inr (Or.inr (Or.inl h3)))])
    clear HR
    go_enter Tryd.func28, Tryd.ntmps28
    go_wp2
    go_ret
    exact ⟨by rw [HR2.out]; rfl, Below.refl _ _⟩
  have hd3 : decide (1024 < n) = false := decide_eq_false h3
  cases G
  · have HR2 : Hid (R = false) := Lib.hid (by rw [HR.out, if_pos (Or.inr (Or.inr (Or.inr rfl)))])
    clear HR
    go_enter Tryd.func28, Tryd.ntmps28
    go_wp2_with fail
    go_at_call 44
    refine HD.out.mono ?_
    rintro e' w1 ⟨rfl, rfl⟩
    go_wp2
    go_ret
    exact ⟨by rw [HR2.out]; rfl, Below.refl _ _⟩
  have HR1 := Lib.hid (HR.out.trans (if_neg (by simp; omega)))
  clear HR
  by_cases h4 : m = 0
  · subst h4
    have HR2 := Lib.hid (HR1.out.trans (if_pos rfl))
    clear HR1
    by_cases h5 : np = 0
    · subst h5
      go_enter Tryd.func28, Tryd.ntmps28
      go_wp2_with fail
      go_at_call 44
      refine HD.out.mono ?_
      rintro e' w1 ⟨rfl, rfl⟩
      go_wp2_with fail
      go_at_call 23
      refine (sum_l [] _ rfl w HK.out (by simp)).mono ?_
      rintro e' w2 ⟨rfl, hb⟩
      have he : ((bs old).toList == (bs (shaL [])).toList) = R := by rw [tl_bs, tl_bs, HR2.out]; simp
      have HB := Lib.hid hb
      clear hb
      go_wp2
      go_ret
      exact ⟨rfl, HB.out⟩
    · have h5I : ((np : Int) == 0) = false := by rw [beq_eq_false_iff_ne]; omega
      have HR3 : Hid (R = false) := Lib.hid (by rw [HR2.out, decide_eq_false h5]; rfl)
      clear HR2 h5
      go_enter Tryd.func28, Tryd.ntmps28
      go_wp2_with fail
      go_at_call 44
      refine HD.out.mono ?_
      rintro e' w1 ⟨rfl, rfl⟩
      go_wp2
      go_ret
      exact ⟨by rw [HR3.out]; rfl, Below.refl _ _⟩
  have h4I : (m == 0) = false := by rw [beq_eq_false_iff_ne]; exact h4
  have HR2 := Lib.hid (HR1.out.trans (if_neg h4))
  clear HR1
  by_cases h6 : m = n
  · subst h6
    have HR3 := Lib.hid (HR2.out.trans (if_pos rfl))
    clear HR2 h4
    by_cases h5 : np = 0
    · subst h5
      have he : ((bs old).toList == (bs root).toList) = R := by rw [tl_bs, tl_bs, HR3.out, decide_eq_true (show 0 = 0 from rfl), Bool.true_and]
      go_enter Tryd.func28, Tryd.ntmps28
      go_wp2_with fail
      go_at_call 44
      refine HD.out.mono ?_
      rintro e' w1 ⟨rfl, rfl⟩
      go_wp2
      go_ret
      exact ⟨rfl, Below.refl _ _⟩
    · have h5I : ((np : Int) == 0) = false := by rw [beq_eq_false_iff_ne]; omega
      have HR4 : Hid (R = false) := Lib.hid (by rw [HR3.out, decide_eq_false h5]; rfl)
      clear HR3 h5
      go_enter Tryd.func28, Tryd.ntmps28
      go_wp2_with fail
      go_at_call 44
      refine HD.out.mono ?_
      rintro e' w1 ⟨rfl, rfl⟩
      go_wp2
      go_ret
      exact ⟨by rw [HR4.out]; rfl, Below.refl _ _⟩
  have h6I : (m == n) = false := by rw [beq_eq_false_iff_ne]; exact h6
  have HR3 := Lib.hid (HR2.out.trans (if_neg h6))
  clear HR2
  obtain ⟨M, rfl⟩ : ∃ M : Nat, m = (M : Int) := ⟨m.toNat, by omega⟩
  obtain ⟨N, rfl⟩ : ∃ N : Nat, n = (N : Int) := ⟨n.toNat, by omega⟩
  have hM0 : 0 < M := by omega
  have hMN : M < N := by omega
  have hN : N ≤ 1024 := by omega
  obtain ⟨I, hI⟩ : ∃ I, I = inL 0 N M := ⟨_, rfl⟩
  obtain ⟨E, hE⟩ : ∃ E, E = endL 0 N M := ⟨_, rfl⟩
  have hIl : I.length ≤ 1024 := by rw [hI]; exact Nat.le_trans (inL_length N 0 N M (Nat.le_refl _) (by omega) hM0 (by omega)) hN
  have HR4 : Hid (R = if 0 < E then (if np = 0 then false else endB old root (g.headD []) g.tail I) else endB old root old g I) := Lib.hid (by
    have h := HR3.out
    rw [Int.toNat_natCast, Int.toNat_natCast, ← hI, ← hE] at h
    exact h)
  have hd2n : decide (N < M) = false := decide_eq_false (by omega)
  have HI := Lib.hid hI
  have HE := Lib.hid hE
  clear HR3 hI hE h1 h2 h3 h4 h6
  go_enter Tryd.func28, Tryd.ntmps28
  go_wp2_with fail
  go_at_call 44
  refine HD.out.mono ?_
  rintro e' w1 ⟨rfl, rfl⟩
  go_wp2
  clear hd1 hd2 hd3 h4I h6I hd2n
  go_loopw [11, 12, 13] (fun v x y wr => ∃ (a' n' : Nat) (pre : List Bool), x = .int .i64 a' ∧ y = .int .i64 n' ∧ a' < M ∧ M ≤ a' + n' ∧ a' + n' ≤ 1024 ∧ pre ++ inL a' n' M = I ∧ endL a' n' M = E ∧ wr.ownsRow w.heap.size 4 1 v pre.length (bools pre) ∧ Below w.heap.size w wr) (fun _ _ b _ => (intOf b).toNat)
  case atStart => exact ⟨0, N, [], rfl, rfl, hM0, by omega, by omega, HI.out.symm, HE.out.symm, ⟨by simp [bools], Or.inl ⟨rfl, rfl⟩⟩, Below.refl _ _⟩
  case round =>
  clear HI HE
  obtain ⟨a', n', pre, rfl, rfl, ha, hm, hn, hrel, hre, hown, hbw⟩ := hrel
  have HREL := Lib.hid hrel
  have HRE := Lib.hid hre
  have HO := Lib.hid hown
  have HBW := Lib.hid hbw
  have hsz := hbw.size
  have hpl : pre.length ≤ 1024 := by
    have := congrArg List.length hrel
    rw [List.length_append] at this
    omega
  clear hrel hown hbw hre
  by_cases hend : a' + n' ≤ M
  · obtain ⟨e1, e2⟩ := inL_end hend (by omega)
    obtain rfl : pre = I := by rw [← HREL.out, e1, List.append_nil]
    obtain rfl : a' = E := e2.symm.trans HRE.out
    have hendI : (a' : Int) + (n' : Int) ≤ (M : Int) := by omega
    clear e1 e2 HREL HRE hend
    have hE0 : Hid (a' = a') := Lib.hid rfl
    have hrow : ∃ pv cv, u11 = .slice pv pre.length cv ∧ ∀ j (h : j < pre.length), ∃ gg, pv = some ⟨gg, 0, none⟩ ∧ gg < wr.heap.size ∧ wr.cell? ⟨gg, j, none⟩ = some (.bool pre[j]) := by
      rcases Nat.eq_zero_or_pos pre.length with h0 | h0
      · rcases HO.out.2 with ⟨rfl, h0'⟩ | ⟨gg, cap, cur, rfl, _⟩
        · exact ⟨none, 0, by rw [h0], fun j hj => by omega⟩
        · exact ⟨_, _, rfl, fun j hj => by omega⟩
      · obtain ⟨gg, cap, rfl, _, hg, _, hc⟩ := own_open HO.out h0
        exact ⟨_, _, rfl, fun j hj => ⟨gg, rfl, hg, hc j _ hj (by rw [bools, List.getElem?_map, List.getElem?_eq_getElem hj]; rfl)⟩⟩
    obtain ⟨pv, cv, rfl, hcells⟩ := hrow
    have HC := Lib.hid hcells
    clear hcells HO hE0
    go_upto_if 87 with (fail)
    go_cut [4, 16] (fun s x wx => ∃ (gp' : Option Addr) (np' gc' : Nat) (g' : List (List UInt8)) (a2 : List UInt8), s = .slice gp' np' gc' ∧ np' = g'.length ∧ x = .string (bs a2) ∧ HasS (fun _ => True) wx gp' g' ∧ np' ≤ 1099511627776 ∧ a2.length ≤ 1099511627776 ∧ (∀ x ∈ g', x.length = 32) ∧ R = endB old root a2 g' pre ∧ Below wr.heap.size wr wx)
    case first =>
      have h32 : ∀ x ∈ g, x.length = 32 := by
        have h := HG.out.symm
        unfold dig32 at h
        rw [List.all_eq_true] at h
        intro s hs
        simpa using h s hs
      have H32 := Lib.hid h32
      clear h32
      by_cases hE : 0 < a'
      · have hEI : (0 : Int) < (a' : Int) := by omega
        by_cases h0 : np = 0
        · subst h0
          have HR5 : Hid (R = false) := Lib.hid (by rw [HR4.out, if_pos hE, if_pos rfl])
          have HB := Lib.hid HBW.out
          go_wp2
          go_ret
          exact ⟨by rw [HR5.out]; rfl, HB.out⟩
        · have h0I : ((np : Int) == 0) = false := by rw [beq_eq_false_iff_ne]; omega
          obtain ⟨x, g', rfl⟩ : ∃ x g', g = x :: g' := by
            cases g with
            | nil => exact absurd HNP.out h0
            | cons x g' => exact ⟨x, g', rfl⟩
          have HR5 : Hid (R = endB old root x g' pre) := Lib.hid (by rw [HR4.out, if_pos hE, if_neg h0]; rfl)
          obtain ⟨g0, o0, rfl, _, hg0, hc0⟩ := HP.out 0 (by simp)
          rw [Nat.add_zero, List.getElem_cons_zero] at hc0
          have hc1 := (HBW.out.cell (p := ⟨g0, o0, none⟩) hg0).trans hc0
          have hx32 := H32.out x (by simp)
          have hnp : np = g'.length + 1 := HNP.out
          subst hnp
          have hdr : HasS (fun _ => True) wr (some ⟨g0, o0 + 1, none⟩) g' := by
            have h := (hasS_dropO HP.out 1).ext_to (S' := fun _ => True) (fun _ _ => trivial) (fun b hb hlt => HBW.out.block b hlt)
            rw [Option.map_some, addr_add] at h
            exact h
          have HDR := Lib.hid hdr
          have HBS := Lib.hid (Below.refl wr.heap.size wr)
          have hgc1 : (1 : Int) ≤ (gc : Int) := by omega
          have hg0r : g0 < wr.heap.size := Nat.lt_of_lt_of_le hg0 hsz
          clear h0 hc0 hdr HR4 hE
          go_upto_region 20 with (fail)
          refine mixB_start [] (Cls wr) (by kernel_rfl) (Cls.of ((Below.refl _ _).drew)) (fun hCw => ?_)
          refine mixB_flt (by kernel_rfl) [0, 1, 2, 3, 4, 5, 6] 0 _ _ hCw (by kernel_rfl) ?_
          simp only [opsAt, List.map_cons, List.map_nil, List.toList_toArray, List.getD_cons_succ, List.getD_cons_zero]
          unfold Cls
          repeat (go_big_quiet_step (fail))
          refine wpQuiet_nil ?_
          (try rw [← Cls_def])
          refine mixB_end [] (by kernel_rfl) ?_
          refine wpList_nil ?_
          refine Calm.normal ?_
          go_wp2
          all_goals go_meet
          all_goals refine ⟨_, g'.length, _, g', x, rfl, rfl, rfl, ?_, by omega, by omega, fun y hy => H32.out y (List.mem_cons_of_mem _ hy), HR5.out, (Below.refl _ _).drew⟩
          · intro i hi
            omega
          · exact HDR.out.ext hCw.below
      · have hEI : (a' : Int) ≤ 0 := by omega
        have HR5 : Hid (R = endB old root old g pre) := Lib.hid (by rw [HR4.out, if_neg hE])
        have HPW := Lib.hid ((HP.out.ext_to (S' := fun _ => True) (fun _ _ => trivial) (fun b hb hlt => HBW.out.block b hlt)))
        clear HR4 hE
        go_wp2
        go_meet
        exact ⟨gp, np, gc, g, old, rfl, HNP.out, rfl, HPW.out, hgn, hold, H32.out, HR5.out, Below.refl _ _⟩
    case rest =>
      obtain ⟨gp', np', gc', g', a2, rfl, hnp, rfl, hs, hnl, ha2, h32, hR, hb⟩ := hcut
      have HNP2 := Lib.hid hnp
      have HS := Lib.hid hs
      have H32 := Lib.hid h32
      have HR5 := Lib.hid hR
      have HB := Lib.hid (HBW.out.trans (hb.mono hsz))
      have HCW : Hid (∀ (j : Nat) (h : j < pre.length), ∃ gg, pv = some ⟨gg, 0, none⟩ ∧ gg < wc.heap.size ∧ wc.cell? ⟨gg, j, none⟩ = some (.bool pre[j])) := Lib.hid (fun j hj => by
        obtain ⟨gg, q1, q2, q3⟩ := HC.out j hj
        exact ⟨gg, q1, Nat.lt_of_lt_of_le q2 hb.size, (hb.cell (p := ⟨gg, j, none⟩) q2).trans q3⟩)
      clear hnp hs h32 hR hb HC HP HNP HG HD hcap hgn HR4
      by_cases hlen : np' = pre.length
      case neg =>
        have hne : ((np' : Int) != (pre.length : Int)) = true := by simp; omega
        have HR6 : Hid (R = false) := Lib.hid (by rw [HR5.out]; unfold endB; rw [if_pos (by rw [← HNP2.out]; exact hlen)])
        clear hlen
        go_wp2
        go_ret
        exact ⟨by rw [HR6.out]; rfl, HB.out⟩
      subst hlen
      obtain ⟨J, hJ⟩ : ∃ J, J = pre.reverse := ⟨_, rfl⟩
      obtain ⟨L, hL⟩ : ∃ L, L = pre.length := ⟨_, rfl⟩
      have HR6 : Hid (((twoL a2 a2 g' J).1 == old && (twoL a2 a2 g' J).2 == root) = R) := Lib.hid (by rw [HR5.out]; unfold endB; rw [if_neg (by rw [← HNP2.out]; simp), hJ])
      have HJ := Lib.hid hJ
      rw [← hL] at HNP2 hnl hpl ⊢
      have HL := Lib.hid hL
      clear hJ HR5 hL
      go_wp2
      go_loopw [104, 16, 17] (fun j x y wz => ∃ (k : Nat) (x' y' : List UInt8), j = .int .i64 (k : Int) ∧ x = .string (bs x') ∧ y = .string (bs y') ∧ k ≤ L ∧ x'.length ≤ 1099511627776 ∧ y'.length ≤ 1099511627776 ∧ ((twoL x' y' (g'.drop k) (J.drop k)).1 == old && (twoL x' y' (g'.drop k) (J.drop k)).2 == root) = R ∧ Below wc.heap.size wc wz) (fun j _ _ _ => L - (intOf j).toNat)
      case atStart => exact ⟨0, a2, a2, rfl, rfl, rfl, by omega, ha2, ha2, HR6.out, Below.refl _ _⟩
      case round =>
      clear HR6
      obtain ⟨k, x, y, rfl, rfl, rfl, hk, hx, hy, hrel, hbw⟩ := hrel
      have HREL := Lib.hid hrel
      have HBZ := Lib.hid hbw
      have hxs := bs_size x
      have hys := bs_size y
      clear hrel hbw
      by_cases hlt : k < L
      · have hj1 : k < g'.length := by rw [← HNP2.out]; exact hlt
        have hj2 : k < J.length := by rw [HJ.out, List.length_reverse, ← HL.out]; exact hlt
        have hj3 : L - 1 - k < pre.length := by rw [← HL.out]; omega
        obtain ⟨g1, o1, hp1, _, hg1, hc1⟩ := (HS.out.ext HBZ.out) k hj1
        obtain ⟨g2, hp2, hg2, hc2⟩ := HCW.out (L - 1 - k) hj3
        have hc2 := (HBZ.out.cell (p := ⟨g2, L - 1 - k, none⟩) hg2).trans hc2
        have hst := twoL_step (a := x) (b := y) hj1 hj2
        have hq := H32.out _ (List.getElem_mem hj1)
        have hJk : J[k] = pre[L - 1 - k] := by
          simp only [HJ.out, List.getElem_reverse, ← HL.out]
        rw [hJk] at hst
        generalize g'[k] = q at hc1 hst hq
        generalize pre[L - 1 - k] = b at hc2 hst
        have HST := Lib.hid hst
        have hqs := bs_size q
        have hidx : (L : Int) - 1 - (k : Int) = ((L - 1 - k : Nat) : Int) := by omega
        obtain ⟨z, hz⟩ : ∃ z, z = L - 1 - k := ⟨_, rfl⟩
        rw [← hz] at hc2 hidx
        have hzl : z < L := by omega
        clear hst hg2 hg1 hJk hz
        subst hp1
        subst hp2
        cases b
        · have HREL2 : Hid (((twoL x (nodeL y q) (g'.drop (k + 1)) (J.drop (k + 1))).1 == old && (twoL x (nodeL y q) (g'.drop (k + 1)) (J.drop (k + 1))).2 == root) = R) := Lib.hid (by rw [← HREL.out, HST.out]; rfl)
          go_wp2_with fail
          go_at_call 33
          refine (node_any y q wr (HK.out.ext (HB.out.trans (HBZ.out.mono HB.out.size))) hy (by omega)).mono ?_
          rintro e' w4 ⟨rfl, hb⟩
          have HB4 := Lib.hid (below_ext HBZ.out hb)
          have h32y := nodeL_length y q
          clear hb hc1 hc2 hidx
          go_wp2
          go_roundw
          case rel => exact ⟨k + 1, _, _, by go_num, rfl, rfl, by omega, hx, by omega, HREL2.out, HB4.out⟩
          case measure => simp [intOf]; omega
        · have HREL2 : Hid (((twoL (nodeL q x) (nodeL q y) (g'.drop (k + 1)) (J.drop (k + 1))).1 == old && (twoL (nodeL q x) (nodeL q y) (g'.drop (k + 1)) (J.drop (k + 1))).2 == root) = R) := Lib.hid (by rw [← HREL.out, HST.out]; rfl)
          go_wp2_with fail
          go_at_call 33
          refine (node_any q x wr (HK.out.ext (HB.out.trans (HBZ.out.mono HB.out.size))) (by omega) hx).mono ?_
          rintro e' w4 ⟨rfl, hb⟩
          have HB4 := Lib.hid (below_ext HBZ.out hb)
          have h32x := nodeL_length q x
          clear hb
          go_wp2_with fail
          go_at_call 33
          refine (node_any q y w4 (HK.out.ext (HB.out.trans (HB4.out.mono HB.out.size))) (by omega) hy).mono ?_
          rintro e' w5 ⟨rfl, hb⟩
          have HB5 := Lib.hid (below_ext HB4.out hb)
          have h32y := nodeL_length q y
          clear hb hc1 hc2 hidx
          go_wp2
          go_roundw
          case rel => exact ⟨k + 1, _, _, by go_num, rfl, rfl, by omega, by omega, by omega, HREL2.out, HB5.out⟩
          case measure => simp [intOf]; omega
      · have hr : (x == old && y == root) = R := by
          rw [← HREL.out, List.drop_eq_nil_of_le (by rw [← HNP2.out]; omega)]
          rfl
        have HBZ2 := Lib.hid (HB.out.trans (HBZ.out.mono HB.out.size))
        have hkL : k = L := by omega
        obtain ⟨b1, hb1⟩ : ∃ b1, b1 = (x == old) := ⟨_, rfl⟩
        obtain ⟨b2, hb2⟩ : ∃ b2, b2 = (y == root) := ⟨_, rfl⟩
        have he1 : ((bs x).toList == (bs old).toList) = b1 := by rw [tl_bs, tl_bs, hb1]
        have he2 : ((bs y).toList == (bs root).toList) = b2 := by rw [tl_bs, tl_bs, hb2]
        rw [← hb1, ← hb2] at hr
        have HRR := Lib.hid hr
        clear hr hb1 hb2
        cases b1
        · go_wp2
          go_ret
          exact ⟨by rw [← HRR.out]; rfl, HBZ2.out⟩
        · go_wp2
          go_ret
          exact ⟨by rw [← HRR.out]; rfl, HBZ2.out⟩
  · have hendI : (M : Int) < (a' : Int) + (n' : Int) := by omega
    obtain ⟨p1, p2, p3⟩ := halfN_fits (n := n') (by omega) (by omega)
    obtain ⟨k, hk⟩ : ∃ k, k = halfN n' := ⟨_, rfl⟩
    have HKK := Lib.hid hk
    rw [← hk] at p1 p2 p3
    clear hk
    go_wp2_with fail
    go_at_call 41
    refine (half_any n' (by omega) (by omega) _).mono ?_
    rintro e' w1 ⟨he, rfl⟩
    rw [← HKK.out] at he
    subst he
    obtain ⟨X, hX⟩ : ∃ X, X = decide ((a' : Int) + (k : Int) < (M : Int)) := ⟨_, rfl⟩
    have HX := Lib.hid hX
    have hnew : (wr.alloc (.cells #[.bool X] 4)).ownsRow w.heap.size 4 1 _ pre.length (bools pre) := own_alloc HO.out _
    have HNEW := Lib.hid hnew
    clear hnew hX
    by_cases hl : a' + k < M
    · have hlI : (a' : Int) + (k : Int) < (M : Int) := by omega
      obtain rfl : X = true := by rw [HX.out]; exact decide_eq_true hlI
      have hdec : decide ((a' : Int) + (k : Int) < (M : Int)) = true := decide_eq_true hlI
      obtain ⟨q1, q2⟩ := inL_right (a := a') (n := n') (m := M) (by omega) ha (by omega) (by rw [← HKK.out]; exact hl)
      have hrel2 : (pre ++ [true]) ++ inL (a' + k) (n' - k) M = I := by rw [← HREL.out, q1, ← HKK.out, List.append_assoc]; rfl
      have hre2 : endL (a' + k) (n' - k) M = E := by rw [← HRE.out, q2, ← HKK.out]
      have HREL2 := Lib.hid hrel2
      have HRE2 := Lib.hid hre2
      clear hrel2 hl q1 q2 hre2
      go_wp2_with (at_builtin; refine push_at w.heap.size rfl _ _ 82 4 (.bool false) 1 rfl Tryd.underlying82 (by kernel_rfl) rfl (by decide) _ pre.length _ HNEW.out wr.heap.size 1 [.bool true] (IsBlk.new _ _ _) rfl rfl rfl (by simp [Value.oneCell']) (by simp; omega) (by omega) ?_)
      intro v1 w2 hown hg
      have HO2 : Hid (w2.ownsRow w.heap.size 4 1 v1 (pre ++ [true]).length (bools (pre ++ [true]))) := Lib.hid (by simpa [bools] using hown)
      have HB2 := Lib.hid (below_grown (HBW.out.alloc hsz _) hg (by simp; omega) (fun j hj => (HNEW.out.lt j hj).1))
      clear hown hg
      go_wp2
      go_roundw
      case rel => exact ⟨a' + k, n' - k, pre ++ [true], by go_num, by rw [Int.ofNat_sub (by omega)], by omega, by omega, by omega, HREL2.out, HRE2.out, HO2.out, HB2.out⟩
      case measure => simp [intOf]; omega
    · have hlI : (M : Int) ≤ (a' : Int) + (k : Int) := by omega
      obtain rfl : X = false := by rw [HX.out]; exact decide_eq_false (by omega)
      have hdec : decide ((a' : Int) + (k : Int) < (M : Int)) = false := decide_eq_false (by omega)
      obtain ⟨q1, q2⟩ := inL_left (a := a') (n := n') (m := M) (by omega) ha (by omega) (by rw [← HKK.out]; exact hl)
      have hrel2 : (pre ++ [false]) ++ inL a' k M = I := by rw [← HREL.out, q1, ← HKK.out, List.append_assoc]; rfl
      have hre2 : endL a' k M = E := by rw [← HRE.out, q2, ← HKK.out]
      have HREL2 := Lib.hid hrel2
      have HRE2 := Lib.hid hre2
      clear hrel2 hl q1 q2 hre2
      go_wp2_with (at_builtin; refine push_at w.heap.size rfl _ _ 82 4 (.bool false) 1 rfl Tryd.underlying82 (by kernel_rfl) rfl (by decide) _ pre.length _ HNEW.out wr.heap.size 1 [.bool false] (IsBlk.new _ _ _) rfl rfl rfl (by simp [Value.oneCell']) (by simp; omega) (by omega) ?_)
      intro v1 w2 hown hg
      have HO2 : Hid (w2.ownsRow w.heap.size 4 1 v1 (pre ++ [false]).length (bools (pre ++ [false]))) := Lib.hid (by simpa [bools] using hown)
      have HB2 := Lib.hid (below_grown (HBW.out.alloc hsz _) hg (by simp; omega) (fun j hj => (HNEW.out.lt j hj).1))
      clear hown hg
      go_wp2
      go_roundw
      case rel => exact ⟨a', k, pre ++ [false], rfl, rfl, by omega, by omega, by omega, HREL2.out, HRE2.out, HO2.out, HB2.out⟩
      case measure => simp [intOf]; omega
end Go.Proofs.YtfnlehnhcekpkaaDoor

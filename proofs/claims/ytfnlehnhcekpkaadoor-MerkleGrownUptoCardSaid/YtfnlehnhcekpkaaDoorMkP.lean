/- merkle: Tree.Path. Conditions: the texts are no longer than 2^40 bytes, at most 2^40; the table of constants reads as the text lays it. -/
import Derived.Test.YtfnlehnhcekpkaaDoorMkT
import Derived.Test.YtfnlehnhcekpkaaDoorMkR
set_option linter.unusedVariables false
set_option linter.unusedSimpArgs false
namespace Go.Proofs.YtfnlehnhcekpkaaDoor
open Go Go.RowKit Go.BigFrame
set_option maxRecDepth 100000

/-- What a path has, from the root down. -/
def pathF (texts : List (List UInt8)) : Nat → Nat → Nat → Nat → List (List UInt8)
  | 0, _, _, _ => []
  | f + 1, a, n, i => if n ≤ 1 then [] else if i < a + halfN n then rootL (seg texts (a + halfN n) (n - halfN n)) :: pathF texts f a (halfN n) i else rootL (seg texts a (halfN n)) :: pathF texts f (a + halfN n) (n - halfN n) i
theorem pathF_fuel (texts : List (List UInt8)) : ∀ (f g a n i : Nat), n ≤ f → n ≤ g → n ≤ 1099511627776 → pathF texts f a n i = pathF texts g a n i := by
  intro f
  induction f with
  | zero => intro g a n i hf hg _; cases g with
    | zero => rfl
    | succ g => rw [pathF, pathF, if_pos (by omega)]
  | succ f ih =>
    intro g a n i hf hg hn
    cases g with
    | zero => rw [pathF, pathF, if_pos (by omega)]
    | succ g =>
      rw [pathF, pathF]
      by_cases h1 : n ≤ 1
      · rw [if_pos h1, if_pos h1]
      · rw [if_neg h1, if_neg h1]
        obtain ⟨p, q, r⟩ := halfN_fits (n := n) (by omega) hn
        rw [ih g a (halfN n) i (by omega) (by omega) (by omega), ih g (a + halfN n) (n - halfN n) i (by omega) (by omega) (by omega)]
def pathD (texts : List (List UInt8)) (a n i : Nat) : List (List UInt8) := pathF texts n a n i
theorem pathD_one {texts : List (List UInt8)} {a n i : Nat} (h : n ≤ 1) : pathD texts a n i = [] := by
  unfold pathD
  cases n with
  | zero => rfl
  | succ n => rw [pathF, if_pos h]
theorem pathD_left {texts : List (List UInt8)} {a n i : Nat} (h2 : 2 ≤ n) (hn : n ≤ 1099511627776) (h : i < a + halfN n) : pathD texts a n i = rootL (seg texts (a + halfN n) (n - halfN n)) :: pathD texts a (halfN n) i := by
  obtain ⟨p, q, r⟩ := halfN_fits h2 hn
  unfold pathD
  obtain ⟨m, rfl⟩ : ∃ m, n = m + 1 := ⟨n - 1, by omega⟩
  rw [pathF, if_neg (by omega), if_pos h, pathF_fuel texts m (halfN (m + 1)) _ _ _ (by omega) (by omega) (by omega)]
theorem pathD_right {texts : List (List UInt8)} {a n i : Nat} (h2 : 2 ≤ n) (hn : n ≤ 1099511627776) (h : ¬ i < a + halfN n) : pathD texts a n i = rootL (seg texts a (halfN n)) :: pathD texts (a + halfN n) (n - halfN n) i := by
  obtain ⟨p, q, r⟩ := halfN_fits h2 hn
  unfold pathD
  obtain ⟨m, rfl⟩ : ∃ m, n = m + 1 := ⟨n - 1, by omega⟩
  rw [pathF, if_neg (by omega), if_neg h, pathF_fuel texts m (m + 1 - halfN (m + 1)) _ _ _ (by omega) (by omega) (by omega)]
theorem pathD_length (texts : List (List UInt8)) : ∀ (m a n i : Nat), n ≤ m → n ≤ 1099511627776 → (pathD texts a n i).length ≤ n := by
  intro m
  induction m with
  | zero => intro a n i h _; rw [pathD_one (by omega)]; simp
  | succ m ih =>
    intro a n i h hn
    by_cases h1 : n ≤ 1
    · rw [pathD_one h1]; simp
    · obtain ⟨p, q, r⟩ := halfN_fits (n := n) (by omega) hn
      by_cases hl : i < a + halfN n
      · rw [pathD_left (by omega) hn hl, List.length_cons]
        have := ih a (halfN n) i (by omega) (by omega)
        omega
      · rw [pathD_right (by omega) hn hl, List.length_cons]
        have := ih (a + halfN n) (n - halfN n) i (by omega) (by omega)
        omega
theorem lookup_made {texts : List (List UInt8)} {L : List (Span × List UInt8)} {w : World} {b c d : Nat} {x y : Int} (hm : MapIs w b L) (hg : GoodM texts L) (hu : ∀ c d, Under 0 texts.length c d → got L ((c : Int), (d : Int)) ≠ none) (h : Under 0 texts.length c d) (hx : x = (c : Int)) (hy : y = (d : Int)) :
    (Instr.lookup 73 (.map (some b)) (.agg #[.int .i64 x, .int .i64 y]) false).run Tryd.prog w = .ok (.string (bs (rootL (seg texts c d)))) w := by
  subst hx
  subst hy
  have h1 := run_lookup_span ((c : Int), (d : Int)) w b L hm
  have h2 := hu c d h
  cases hq : got L ((c : Int), (d : Int)) with
  | none => exact absurd hq h2
  | some r =>
    rw [hq, Option.getD_some, hg c d r hq] at h1
    exact h1
theorem own_base_le {w : World} {B B' n : Nat} {e : TypeId} {v : Value} {xs : List Value} {size : Nat} (h : w.ownsRow B e size v n xs) (hB : B' ≤ B) : w.ownsRow B' e size v n xs := by
  obtain ⟨h1, h2⟩ := h
  refine ⟨h1, ?_⟩
  rcases h2 with h2 | ⟨g, cap, cur, q1, q2, q⟩
  · exact .inl h2
  · exact .inr ⟨g, cap, cur, q1, by omega, q⟩
theorem own_other {w w' : World} {B n size : Nat} {e : TypeId} {v : Value} {xs : List Value} (h : w.ownsRow B e size v n xs) (hk : ∀ b, v.ownBlock = some b → w'.heap[b]? = w.heap[b]?) : w'.ownsRow B e size v n xs := by
  obtain ⟨h1, h2⟩ := h
  refine ⟨h1, ?_⟩
  rcases h2 with h2 | ⟨g, cap, cur, rfl, q2, q3, q⟩
  · exact .inl h2
  · exact .inr ⟨g, cap, cur, rfl, q2, (hk g rfl).trans q3, q⟩
theorem own_ne {w : World} {B n size g : Nat} {e t : TypeId} {v : Value} {xs : List Value} {cs : Array Value} (h : w.ownsRow B e size v n xs) (hg : IsBlk w g cs t) (hne : t ≠ e) : v.ownBlock ≠ some g := by
  rcases h.2 with ⟨rfl, _⟩ | ⟨g', cap, cur, rfl, q2, q3, q⟩
  · intro e; cases e
  · intro he
    obtain rfl : g' = g := Option.some.inj he
    have : w.heap[g']? = some (.cells cs t (0, 0)) := hg
    rw [q3] at this
    simp only [Option.some.injEq, Obj.cells.injEq] at this
    exact hne this.2.1.symm
theorem path_out (texts : List (List UInt8)) (S : Nat → Prop) (g : Nat) (tp : Option Addr) (cap : Nat) (i : Int) (w : World) (h : TreeIn S texts g tp cap w) (hi : i < 0 ∨ (texts.length : Int) ≤ i) :
    Calls Tryd.prog 19 #[.pointer (some ⟨g, 0, none⟩), .int .i64 i] w fun e' w' => e' = .returned (.tuple #[.slice none 0 0, .int .i64 2]) ∧ w = w' := by
  obtain ⟨_, _, _, _, hblk⟩ := h.block
  have c0 := hblk.cell (i := 0) rfl
  clear h hblk
  by_cases h1 : i < 0
  · have hd1 : decide (i < 0) = true := decide_eq_true h1
    clear hi
    go_enter Tryd.func19, Tryd.ntmps19
    go_wp2
    go_ret2
    exact ⟨rfl, rfl⟩
  · have hd1 : decide (i < 0) = false := decide_eq_false h1
    have h2 : (texts.length : Int) ≤ i := by omega
    have hd2 : decide ((texts.length : Int) ≤ i) = true := decide_eq_true h2
    clear hi
    go_enter Tryd.func19, Tryd.ntmps19
    go_wp2
    go_ret2
    exact ⟨rfl, rfl⟩
set_option maxHeartbeats 8000000 in
theorem path_in (S : Nat → Prop) (texts : List (List UInt8)) (g : Nat) (tp : Option Addr) (cap i : Nat) (w : World) (hK : Ks w) (hkg : 2 ≠ g) (htl : texts.length ≤ 1099511627776) (hts : ∀ s ∈ texts, s.length ≤ 1099511627776)
    (h : TreeIn S texts g tp cap w) (hS : ∀ x, w.heap.size ≤ x → S x) (hi : i < texts.length) :
    Calls Tryd.prog 19 #[.pointer (some ⟨g, 0, none⟩), .int .i64 (i : Int)] w fun e' w' => ∃ v, e' = .returned (.tuple #[v, .int .i64 0]) ∧ w'.ownsRow w.heap.size 9 1 v (pathD texts 0 texts.length i).length (strsV (pathD texts 0 texts.length i).reverse) ∧ KeptG g w w' ∧ Below g w w' ∧ TreeIn S texts g tp cap w' := by
  obtain ⟨_, _, _, _, hblk⟩ := h.block
  have c0 := hblk.cell (i := 0) rfl
  have hgl := hblk.lt
  have HM := Lib.hid (made_any S texts g tp cap w hK hkg htl hts h hS)
  obtain ⟨D, hD⟩ : ∃ D, D = pathD texts 0 texts.length i := ⟨_, rfl⟩
  rw [← hD]
  have hDl : D.length ≤ 1099511627776 := by rw [hD]; exact Nat.le_trans (pathD_length texts _ 0 _ i (Nat.le_refl _) htl) htl
  have HD := Lib.hid hD
  have hiI : (i : Int) < (texts.length : Int) := by omega
  clear hK h hS hblk hD hts
  go_enter Tryd.func19, Tryd.ntmps19
  go_wp2_with fail
  go_at_call 40
  refine HM.out.mono ?_
  rintro e w1 ⟨b, rfl, hk, hb, L, hm⟩
  clear c0
  have c0 : w1.cell? ⟨g, 0, none⟩ = some (.slice tp texts.length cap) := by obtain ⟨x3, hg⟩ := hm.2.2.2.1; exact hg.cell rfl
  have hbl := hm.2.2.2.2.1.lt
  have HMM := Lib.hid hm
  have HK1 := Lib.hid hk
  have HB1 := Lib.hid hb
  have hsz1 := hk.1
  clear hk hb hm
  go_wp2
  go_loopw [7, 8] (fun u v wr => ∃ (a n bx : Nat) (pre : List (List UInt8)), v = .pointer (some ⟨bx, 0, none⟩) ∧ a + n ≤ texts.length ∧ Under 0 texts.length a n ∧ w1.heap.size ≤ bx ∧ pre ++ pathD texts a n i = D ∧ IsBlk wr bx #[.int .i64 (a : Int), .int .i64 (n : Int)] 78 ∧ wr.ownsRow w1.heap.size 9 1 u pre.length (strsV pre) ∧ Below w1.heap.size w1 wr) (fun _ v wr => match v with | .pointer (some p) => (intOf ((wr.cell? ⟨p.block, 1, none⟩).getD undef)).toNat | _ => 0)
  case atStart => exact ⟨0, texts.length, w1.heap.size, [], rfl, by omega, .self _ _, Nat.le_refl _, HD.out.symm, IsBlk.new _ _ _, ⟨by simp [strsV], Or.inl ⟨rfl, rfl⟩⟩, (Below.refl _ _).alloc (Nat.le_refl _) _⟩
  case round =>
  clear HD c0
  obtain ⟨a, n, bx, pre, rfl, han, hun, hbx, hrel, hblk, hown, hbw⟩ := hrel
  have x1 := hblk.cell (i := 1) rfl
  have HREL := Lib.hid hrel
  have HO := Lib.hid hown
  have HBW := Lib.hid hbw
  have HX := Lib.hid hblk
  have HME : Hid (wr.cell? ⟨bx, 1, none⟩ = some (.int .i64 (n : Int))) := Lib.hid (hblk.cell (i := 1) rfl)
  have HUN := Lib.hid hun
  have hsz := hbw.size
  have hxl := hblk.lt
  have hpl : pre.length ≤ 1099511627776 := by
    have := congrArg List.length hrel
    rw [List.length_append] at this
    omega
  clear hrel hown hbw hblk hun
  by_cases h1 : n ≤ 1
  · have hp : pre = D := by rw [← HREL.out, pathD_one h1, List.append_nil]
    subst hp
    have hnI : (n : Int) ≤ 1 := by omega
    clear HREL h1
    go_wp2_with fail
    go_at_call 42
    refine (revs_any w1.heap.size pre _ wr HO.out hpl).mono ?_
    rintro e' w2 ⟨rfl, hown, hb⟩
    have HO1 := Lib.hid hown
    have HB2 := Lib.hid hb
    clear hown hb
    go_wp2
    go_ret2
    refine ⟨_, rfl, own_base_le HO1.out (by omega), ?_, ?_, ?_⟩
    · have hb12 := HBW.out.trans HB2.out
      exact HK1.out.trans (KeptG.of_below hb12)
    · exact HB1.out.trans ((HBW.out.trans HB2.out).mono (by omega))
    · exact .inl ⟨b, L, HMM.out.ext_to (fun _ h _ => h) (fun x _ hx => (HBW.out.trans HB2.out).block x hx)⟩
  · have h2 : 2 ≤ n := by omega
    have hnI : (1 : Int) < (n : Int) := by omega
    have hn40 : n ≤ 1099511627776 := by omega
    obtain ⟨ha, hb, hc⟩ := halfN_fits h2 hn40
    obtain ⟨k, hk⟩ : ∃ k, k = halfN n := ⟨_, rfl⟩
    have HKK := Lib.hid hk
    rw [← hk] at ha hb hc
    clear hk
    go_wp2_with fail
    go_at_call 41
    refine (half_any n h2 hn40 _).mono ?_
    rintro e' w2 ⟨he, rfl⟩
    rw [← HKK.out] at he
    subst he
    have x0 := HX.out.cell (i := 0) rfl
    have hi1 : (a : Int) + (k : Int) ≤ 1099511627776 := by omega
    have hi2 : (k : Int) ≤ (n : Int) := by omega
    have hi3 : (n : Int) ≤ 1099511627776 := by omega
    go_upto_region 10 with (fail)
    go_cut [10, 11] (fun u v wx => ∃ bl br : Nat, u = .pointer (some ⟨bl, 0, none⟩) ∧ v = .pointer (some ⟨br, 0, none⟩) ∧ IsBlk wx bl #[.int .i64 (a : Int), .int .i64 (k : Int)] 78 ∧ IsBlk wx br #[.int .i64 ((a : Int) + (k : Int)), .int .i64 ((n : Int) - (k : Int))] 78 ∧ bl ≠ br ∧ wr.heap.size ≤ bl ∧ wr.heap.size ≤ br ∧ Below wr.heap.size wr wx)
    case first =>
      refine mixB_start [16] (Cls wr) (by kernel_rfl) (Cls.of ((Below.refl _ _).drew)) (fun hCw => ?_)
      refine mixB_flt (by kernel_rfl) [0, 1, 2, 3, 4, 5, 6, 7, 8, 9, 10, 11, 12] 4 _ _ hCw (by kernel_rfl) ?_
      simp only [opsAt, List.map_cons, List.map_nil, List.toList_toArray, List.getD_cons_succ, List.getD_cons_zero]
      unfold Cls
      repeat (go_big_quiet_step (fail))
      refine wpQuiet_nil ?_
      (try rw [← Cls_def])
      refine mixB_br (i := 13) (j := 14) (fuel := 3) (by kernel_rfl) (by kernel_rfl) ?_ ?_
      · simp only [opsAt, List.map_cons, List.map_nil, List.toList_toArray, List.getD_cons_succ, List.getD_cons_zero]
        go_wp2_with (fail)
        refine ThenB.mk (hCw.trans ((Below.refl _ _).alloc (Nat.le_refl _) _)) (fun hCw => ?_)
        refine mixB_ch (i := 14) (fuel := 2) (by kernel_rfl) (by kernel_rfl) ?_
        simp only [opsAt, List.map_cons, List.map_nil, List.toList_toArray, List.getD_cons_succ, List.getD_cons_zero]
        go_wp2_with (fail)
        refine ThenB.mk (hCw.trans ((Below.refl _ _).alloc (Nat.le_refl _) _)) (fun hCw => ?_)
        refine mixB_ch (i := 15) (fuel := 1) (by kernel_rfl) (by kernel_rfl) ?_
        simp only [opsAt, List.map_cons, List.map_nil, List.toList_toArray, List.getD_cons_succ, List.getD_cons_zero]
        go_wp2_with (fail)
        refine ThenB.mk (Cls.of (((Below.refl _ _).drew.alloc (Nat.le_refl _) _).alloc (by simp) _)) (fun hCw => ?_)
        refine mixB_end [16] (by kernel_rfl) ?_
        simp only [opsAt, List.map_cons, List.map_nil, List.toList_toArray, List.getD_cons_succ, List.getD_cons_zero]
        go_wp2
        refine Calm.normal ?_
        go_wp2
        go_meet
        first | refine ⟨wr.heap.size, wr.heap.size + 1, rfl, rfl, (IsBlk.new _ _ _).alloc _, IsBlk.new_at (by simp), by omega, by omega, by omega, ((Below.refl _ _).drew.alloc (Nat.le_refl _) _).alloc (by simp)  _⟩ | refine ⟨wr.heap.size + 1, wr.heap.size, rfl, rfl, IsBlk.new_at (by simp), (IsBlk.new _ _ _).alloc _, by omega, by omega, by omega, ((Below.refl _ _).drew.alloc (Nat.le_refl _) _).alloc (by simp) _⟩
      · simp only [opsAt, List.map_cons, List.map_nil, List.toList_toArray, List.getD_cons_succ, List.getD_cons_zero]
        go_wp2_with (fail)
        refine ThenB.mk (hCw.trans ((Below.refl _ _).alloc (Nat.le_refl _) _)) (fun hCw => ?_)
        refine mixB_ch (i := 13) (fuel := 2) (by kernel_rfl) (by kernel_rfl) ?_
        simp only [opsAt, List.map_cons, List.map_nil, List.toList_toArray, List.getD_cons_succ, List.getD_cons_zero]
        go_wp2_with (fail)
        refine ThenB.mk (hCw.trans ((Below.refl _ _).alloc (Nat.le_refl _) _)) (fun hCw => ?_)
        refine mixB_ch (i := 15) (fuel := 1) (by kernel_rfl) (by kernel_rfl) ?_
        simp only [opsAt, List.map_cons, List.map_nil, List.toList_toArray, List.getD_cons_succ, List.getD_cons_zero]
        go_wp2_with (fail)
        refine ThenB.mk (Cls.of (((Below.refl _ _).drew.alloc (Nat.le_refl _) _).alloc (by simp) _)) (fun hCw => ?_)
        refine mixB_end [16] (by kernel_rfl) ?_
        simp only [opsAt, List.map_cons, List.map_nil, List.toList_toArray, List.getD_cons_succ, List.getD_cons_zero]
        go_wp2
        refine Calm.normal ?_
        go_wp2
        go_meet
        first | refine ⟨wr.heap.size, wr.heap.size + 1, rfl, rfl, (IsBlk.new _ _ _).alloc _, IsBlk.new_at (by simp), by omega, by omega, by omega, ((Below.refl _ _).drew.alloc (Nat.le_refl _) _).alloc (by simp)  _⟩ | refine ⟨wr.heap.size + 1, wr.heap.size, rfl, rfl, IsBlk.new_at (by simp), (IsBlk.new _ _ _).alloc _, by omega, by omega, by omega, ((Below.refl _ _).drew.alloc (Nat.le_refl _) _).alloc (by simp) _⟩
    case rest =>
      obtain ⟨bl, br, rfl, rfl, hbl2, hbr2, hne, hl1, hl2, hb2⟩ := hcut
      have hbx2 : IsBlk wc bx #[.int .i64 (a : Int), .int .i64 (n : Int)] 78 := HX.out.ext hb2
      have HB2 := Lib.hid hb2
      have HO2 := Lib.hid (own_ext HO.out hb2)
      have l0 := hbl2.cell (i := 0) rfl
      have l1 := hbl2.cell (i := 1) rfl
      have r0 := hbr2.cell (i := 0) rfl
      have r1 := hbr2.cell (i := 1) rfl
      clear x0
      have x0 := hbx2.cell (i := 0) rfl
      have x1 := hbx2.cell (i := 1) rfl
      have hll := hbl2.lt
      have hrl := hbr2.lt
      have hxl2 := hbx2.lt
      have f0 := hbx2.frozen 0
      have f1 := hbx2.frozen 1
      have fl0 := hbl2.frozen 0
      have fl1 := hbl2.frozen 1
      have HBL := Lib.hid hbl2
      have HBR := Lib.hid hbr2
      have HBX := Lib.hid hbx2
      clear hb2 hbl2 hbr2 hbx2
      have hown1 := own_ne HO2.out HBX.out (by decide)
      have hown2 := own_ne HO2.out HBL.out (by decide)
      have HU1 : Hid (Under 0 texts.length a k) := Lib.hid (HUN.out.trans (.left h2 (by rw [← HKK.out]; exact .self _ _)))
      have HU2 : Hid (Under 0 texts.length (a + k) (n - k)) := Lib.hid (HUN.out.trans (.right h2 (by rw [← HKK.out]; exact .self _ _)))
      by_cases hlt : i < a + k
      · have hltI : (i : Int) < (a : Int) + (k : Int) := by omega
        have hst : pathD texts a n i = rootL (seg texts (a + k) (n - k)) :: pathD texts a k i := by rw [HKK.out]; exact pathD_left h2 hn40 (by rw [← HKK.out]; exact hlt)
        have HST := Lib.hid hst
        clear hst
        have hog1 : Og bx wc bl := ⟨hll, by omega⟩
        have hog2 : Og bx wc br := ⟨hrl, by omega⟩
        go_upto_region 12 with (fail)
        refine mixB_start [3] (ClsG bx wc) (by kernel_rfl) (ClsG.drew bx wc) (fun hCw => ?_)
        refine mixB_flt (by kernel_rfl) [0, 1] 2 _ _ hCw (by kernel_rfl) ?_
        simp only [opsAt, List.map_cons, List.map_nil, List.toList_toArray, List.getD_cons_succ, List.getD_cons_zero]
        unfold ClsG
        repeat (go_big_quiet_step (fail))
        refine wpQuiet_nil ?_
        (try rw [← ClsG_def])
        refine mixB_ch (i := 2) (fuel := 1) (by kernel_rfl) (by kernel_rfl) ?_
        simp only [opsAt, List.map_cons, List.map_nil, List.toList_toArray, List.getD_cons_succ, List.getD_cons_zero]
        go_wp2_with (fail)
        refine ThenB.mk (ClsG.of (((KeptG.set bx 0 wc _).trans (KeptG.set bx 1 _ _)).drew)) (fun hCw => ?_)
        refine mixB_end [3] (by kernel_rfl) ?_
        simp only [opsAt, List.map_cons, List.map_nil, List.toList_toArray, List.getD_cons_succ, List.getD_cons_zero]
        go_wp2
        refine Calm.normal ?_
        generalize hW : (World.setCell (World.setCell (World.setCell (World.setCell wc _ _) _ _) _ _) _ _).drew = W
        have hbxW : IsBlk W bx #[.int .i64 (a : Int), .int .i64 (k : Int)] 78 := by
          rw [← hW]
          have h1 : IsBlk ((wc.setCell ⟨bx, 0, none⟩ (.int .i64 (a : Int))).setCell ⟨bx, 1, none⟩ (.int .i64 (k : Int))) bx #[.int .i64 (a : Int), .int .i64 (k : Int)] 78 := by simpa using (HBX.out.set 0 (.int .i64 (a : Int))).set 1 (.int .i64 (k : Int))
          exact (h1.set_other (by show bl ≠ bx; omega) _).set_other (by show bl ≠ bx; omega) _
        have hblW : IsBlk W bl #[.int .i64 ((a : Int) + (k : Int)), .int .i64 ((n : Int) - (k : Int))] 78 := by
          rw [← hW]
          have h1 := ((HBL.out.set_other (a := ⟨bx, 0, none⟩) (by show bx ≠ bl; omega) (.int .i64 (a : Int))).set_other (a := ⟨bx, 1, none⟩) (by show bx ≠ bl; omega) (.int .i64 (k : Int)))
          exact IsBlk.drew (by simpa using (h1.set 0 (.int .i64 ((a : Int) + (k : Int)))).set 1 (.int .i64 ((n : Int) - (k : Int))))
        have hbwW : Below w1.heap.size w1 W := by
          rw [← hW]
          exact (below_set (below_set (below_set (below_set (HBW.out.trans (HB2.out.mono hsz)) hbx) hbx) (by omega)) (by omega)).drew
        have hoW : W.ownsRow w1.heap.size 9 1 u7 pre.length (strsV pre) := by
          refine own_other HO2.out (fun q hq => ?_)
          have n1 : q ≠ bx := fun e => hown1 (e ▸ hq)
          have n2 : q ≠ bl := fun e => hown2 (e ▸ hq)
          rw [← hW]
          show (World.setCell _ _ _).heap[q]? = _
          rw [Below.heap_setCell _ _ _ _ n2, Below.heap_setCell _ _ _ _ n2, Below.heap_setCell _ _ _ _ n1, Below.heap_setCell _ _ _ _ n1]
        have hmW : MapIs W b L := HMM.out.2.2.2.2.1.of_block (hbwW.block b hbl)
        have hlk := lookup_made (x := (a : Int) + (k : Int)) (y := (n : Int) - (k : Int)) hmW HMM.out.2.2.2.2.2.1 HMM.out.2.2.2.2.2.2 HU2.out (by omega) (by omega)
        obtain ⟨R, hR⟩ : ∃ R, R = rootL (seg texts (a + k) (n - k)) := ⟨_, rfl⟩
        rw [← hR] at hlk
        have hrel2 : (pre ++ [R]) ++ pathD texts a k i = D := by rw [← HREL.out, HST.out, ← hR, List.append_assoc]; rfl
        have HREL2 := Lib.hid hrel2
        have HNEW := Lib.hid (own_alloc (o := .cells #[.string (bs R)] 9) hoW)
        have HBXW := Lib.hid hbxW
        have HBWW := Lib.hid hbwW
        have hszW := hbwW.size
        have hltW := hbxW.lt
        clear x0 x1 l0 l1 r0 r1 f0 f1 fl0 fl1 hog1 hog2
        have l0 := hblW.cell (i := 0) rfl
        have l1 := hblW.cell (i := 1) rfl
        clear hrel2 hR hmW hW hbxW hbwW hblW hoW hCw HBW HB2 HST HREL HX HO HO2 HBL HBR HBX hltI
        go_wp2_with (at_builtin; refine push_at w1.heap.size rfl _ _ 22 9 (.string (bs [])) 16 rfl Tryd.underlying22 (by kernel_rfl) rfl (by decide) _ pre.length _ HNEW.out W.heap.size 1 [.string (bs R)] (IsBlk.new _ _ _) rfl rfl rfl (by simp [Value.oneCell']) (by simp; omega) (by omega) ?_)
        intro v1 w2 hown hg
        have HO2 : Hid (w2.ownsRow w1.heap.size 9 1 v1 (pre ++ [R]).length (strsV (pre ++ [R]))) := Lib.hid (by simpa [strsV] using hown)
        have HB2 := Lib.hid (below_grown (HBWW.out.alloc hszW _) hg (by simp; omega) (fun j hj => (HNEW.out.lt j hj).1))
        have hbx2 := blk_grown (HBXW.out.alloc _) hg hown1
        have x0 := hbx2.cell (i := 0) rfl
        have x1 := hbx2.cell (i := 1) rfl
        have hsz2 := HB2.out.size
        clear hown hg hbx2 l0 l1
        go_wp2
        go_roundw
        case rel => exact ⟨a, k, w2.heap.size, pre ++ [R], rfl, by omega, HU1.out, hsz2, HREL2.out, IsBlk.new _ _ _, own_alloc HO2.out _, HB2.out.alloc hsz2 _⟩
        case measure =>
          have e1 := HME.out
          have e2 : (w2.alloc (.cells #[.int .i64 (a : Int), .int .i64 (k : Int)] 78)).cell? ⟨w2.heap.size, 1, none⟩ = some (.int .i64 (k : Int)) := (IsBlk.new _ _ _).cell (i := 1) rfl
          simp only [e1, e2, Option.getD_some, intOf]
          omega
      · have hltI : (a : Int) + (k : Int) ≤ (i : Int) := by omega
        have hst : pathD texts a n i = rootL (seg texts a k) :: pathD texts (a + k) (n - k) i := by rw [HKK.out]; exact pathD_right h2 hn40 (by rw [← HKK.out]; exact hlt)
        have HST := Lib.hid hst
        clear hst
        go_upto_region 14 with (fail)
        generalize hW : (World.setCell (World.setCell wc _ _) _ _) = W
        have hbxW : IsBlk W bx #[.int .i64 ((a : Int) + (k : Int)), .int .i64 ((n : Int) - (k : Int))] 78 := by
          rw [← hW]
          simpa using (HBX.out.set 0 (.int .i64 ((a : Int) + (k : Int)))).set 1 (.int .i64 ((n : Int) - (k : Int)))
        have hblW : IsBlk W bl #[.int .i64 (a : Int), .int .i64 (k : Int)] 78 := by
          rw [← hW]
          exact ((HBL.out.set_other (a := ⟨bx, 0, none⟩) (by show bx ≠ bl; omega) _).set_other (a := ⟨bx, 1, none⟩) (by show bx ≠ bl; omega) _)
        have hbwW : Below w1.heap.size w1 W := by
          rw [← hW]
          exact below_set (below_set (HBW.out.trans (HB2.out.mono hsz)) hbx) hbx
        have hoW : W.ownsRow w1.heap.size 9 1 u7 pre.length (strsV pre) := by
          refine own_other HO2.out (fun q hq => ?_)
          have n1 : q ≠ bx := fun e => hown1 (e ▸ hq)
          rw [← hW, Below.heap_setCell _ _ _ _ n1, Below.heap_setCell _ _ _ _ n1]
        have hmW : MapIs W b L := HMM.out.2.2.2.2.1.of_block (hbwW.block b hbl)
        have hlk := lookup_made (x := (a : Int)) (y := (k : Int)) hmW HMM.out.2.2.2.2.2.1 HMM.out.2.2.2.2.2.2 HU1.out (by omega) (by omega)
        obtain ⟨R, hR⟩ : ∃ R, R = rootL (seg texts a k) := ⟨_, rfl⟩
        rw [← hR] at hlk
        have hrel2 : (pre ++ [R]) ++ pathD texts (a + k) (n - k) i = D := by rw [← HREL.out, HST.out, ← hR, List.append_assoc]; rfl
        have HREL2 := Lib.hid hrel2
        have HNEW := Lib.hid (own_alloc (o := .cells #[.string (bs R)] 9) hoW)
        have HBXW := Lib.hid hbxW
        have HBWW := Lib.hid hbwW
        have hszW := hbwW.size
        have hltW := hbxW.lt
        clear x0 x1 l0 l1 r0 r1 f0 f1 fl0 fl1
        have l0 := hblW.cell (i := 0) rfl
        have l1 := hblW.cell (i := 1) rfl
        clear hrel2 hR hmW hW hbxW hbwW hblW hoW HBW HB2 HST HREL HX HO HO2 HBL HBR HBX hltI
        go_wp2_with (at_builtin; refine push_at w1.heap.size rfl _ _ 22 9 (.string (bs [])) 16 rfl Tryd.underlying22 (by kernel_rfl) rfl (by decide) _ pre.length _ HNEW.out W.heap.size 1 [.string (bs R)] (IsBlk.new _ _ _) rfl rfl rfl (by simp [Value.oneCell']) (by simp; omega) (by omega) ?_)
        intro v1 w2 hown hg
        have HO2 : Hid (w2.ownsRow w1.heap.size 9 1 v1 (pre ++ [R]).length (strsV (pre ++ [R]))) := Lib.hid (by simpa [strsV] using hown)
        have HB2 := Lib.hid (below_grown (HBWW.out.alloc hszW _) hg (by simp; omega) (fun j hj => (HNEW.out.lt j hj).1))
        have hbx2 := blk_grown (HBXW.out.alloc _) hg hown1
        have x0 := hbx2.cell (i := 0) rfl
        have x1 := hbx2.cell (i := 1) rfl
        have hsz2 := HB2.out.size
        clear hown hg hbx2 l0 l1
        go_wp2
        go_roundw
        case rel => exact ⟨a + k, n - k, w2.heap.size, pre ++ [R], rfl, by omega, HU2.out, hsz2, HREL2.out, by rw [show ((a + k : Nat) : Int) = (a : Int) + (k : Int) by omega, show ((n - k : Nat) : Int) = (n : Int) - (k : Int) by omega]; exact IsBlk.new _ _ _, own_alloc HO2.out _, HB2.out.alloc hsz2 _⟩
        case measure =>
          have e1 := HME.out
          have e2 : (w2.alloc (.cells #[.int .i64 ((a : Int) + (k : Int)), .int .i64 ((n : Int) - (k : Int))] 78)).cell? ⟨w2.heap.size, 1, none⟩ = some (.int .i64 ((n : Int) - (k : Int))) := (IsBlk.new _ _ _).cell (i := 1) rfl
          simp only [e1, e2, Option.getD_some, intOf]
          omega
end Go.Proofs.YtfnlehnhcekpkaaDoor

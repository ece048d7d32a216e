/- merkle: Tree.Growth. Conditions: the texts are no longer than 2^40 bytes, at most 2^40; the table of constants reads as the text lays it. -/
import Derived.Test.YtfnlehnhcekpkaaDoorMkP
set_option linter.unusedVariables false
set_option linter.unusedSimpArgs false
namespace Go.Proofs.YtfnlehnhcekpkaaDoor
open Go Go.RowKit Go.BigFrame
set_option maxRecDepth 100000

/-- What a growth has, from the root down. -/
def growF (texts : List (List UInt8)) : Nat → Nat → Nat → Nat → List (List UInt8)
  | 0, _, _, _ => []
  | f + 1, a, n, m => if a + n ≤ m then (if 0 < a then [rootL (seg texts a n)] else []) else if m ≤ a + halfN n then rootL (seg texts (a + halfN n) (n - halfN n)) :: growF texts f a (halfN n) m else rootL (seg texts a (halfN n)) :: growF texts f (a + halfN n) (n - halfN n) m
theorem growF_fuel (texts : List (List UInt8)) : ∀ (f g a n m : Nat), n ≤ f → n ≤ g → n ≤ 1099511627776 → a < m → m ≤ a + n → growF texts f a n m = growF texts g a n m := by
  intro f
  induction f with
  | zero => intro g a n m hf hg _ _ _; omega
  | succ f ih =>
    intro g a n m hf hg hn h1 h2
    cases g with
    | zero => omega
    | succ g =>
      rw [growF, growF]
      by_cases h3 : a + n ≤ m
      · rw [if_pos h3, if_pos h3]
      · rw [if_neg h3, if_neg h3]
        obtain ⟨p, q, r⟩ := halfN_fits (n := n) (by omega) hn
        by_cases h4 : m ≤ a + halfN n
        · rw [if_pos h4, if_pos h4, ih g a (halfN n) m (by omega) (by omega) (by omega) (by omega) (by omega)]
        · rw [if_neg h4, if_neg h4, ih g (a + halfN n) (n - halfN n) m (by omega) (by omega) (by omega) (by omega) (by omega)]
def growD (texts : List (List UInt8)) (a n m : Nat) : List (List UInt8) := growF texts n a n m
theorem growD_end {texts : List (List UInt8)} {a n m : Nat} (h : a + n ≤ m) (h0 : 1 ≤ n) : growD texts a n m = if 0 < a then [rootL (seg texts a n)] else [] := by
  unfold growD
  obtain ⟨f, rfl⟩ : ∃ f, n = f + 1 := ⟨n - 1, by omega⟩
  rw [growF, if_pos h]
theorem growD_left {texts : List (List UInt8)} {a n m : Nat} (hn : n ≤ 1099511627776) (h1 : a < m) (h2 : m < a + n) (h : m ≤ a + halfN n) : growD texts a n m = rootL (seg texts (a + halfN n) (n - halfN n)) :: growD texts a (halfN n) m := by
  obtain ⟨p, q, r⟩ := halfN_fits (n := n) (by omega) hn
  unfold growD
  obtain ⟨f, rfl⟩ : ∃ f, n = f + 1 := ⟨n - 1, by omega⟩
  rw [growF, if_neg (by omega), if_pos h, growF_fuel texts f (halfN (f + 1)) _ _ _ (by omega) (by omega) (by omega) (by omega) (by omega)]
theorem growD_right {texts : List (List UInt8)} {a n m : Nat} (hn : n ≤ 1099511627776) (h1 : a < m) (h2 : m < a + n) (h : ¬ m ≤ a + halfN n) : growD texts a n m = rootL (seg texts a (halfN n)) :: growD texts (a + halfN n) (n - halfN n) m := by
  obtain ⟨p, q, r⟩ := halfN_fits (n := n) (by omega) hn
  unfold growD
  obtain ⟨f, rfl⟩ : ∃ f, n = f + 1 := ⟨n - 1, by omega⟩
  rw [growF, if_neg (by omega), if_neg h, growF_fuel texts f (f + 1 - halfN (f + 1)) _ _ _ (by omega) (by omega) (by omega) (by omega) (by omega)]
theorem growD_length (texts : List (List UInt8)) : ∀ (f a n m : Nat), n ≤ f → n ≤ 1099511627776 → a < m → m ≤ a + n → (growD texts a n m).length ≤ n := by
  intro f
  induction f with
  | zero => intro a n m h _ _ _; omega
  | succ f ih =>
    intro a n m h hn h1 h2
    by_cases h3 : a + n ≤ m
    · rw [growD_end h3 (by omega)]; split <;> simp; omega
    · obtain ⟨p, q, r⟩ := halfN_fits (n := n) (by omega) hn
      by_cases hl : m ≤ a + halfN n
      · rw [growD_left hn h1 (by omega) hl, List.length_cons]
        have := ih a (halfN n) m (by omega) (by omega) h1 hl
        omega
      · rw [growD_right hn h1 (by omega) hl, List.length_cons]
        have := ih (a + halfN n) (n - halfN n) m (by omega) (by omega) (by omega) (by omega)
        omega
theorem growth_out (texts : List (List UInt8)) (S : Nat → Prop) (g : Nat) (tp : Option Addr) (cap : Nat) (i : Int) (w : World) (h : TreeIn S texts g tp cap w) (hi : i < 0 ∨ (texts.length : Int) < i) :
    Calls Tryd.prog 25 #[.pointer (some ⟨g, 0, none⟩), .int .i64 i] w fun e' w' => e' = .returned (.tuple #[.slice none 0 0, .int .i64 2]) ∧ w = w' := by
  obtain ⟨_, _, _, _, hblk⟩ := h.block
  have c0 := hblk.cell (i := 0) rfl
  clear h hblk
  by_cases h1 : i < 0
  · have hd1 : decide (i < 0) = true := decide_eq_true h1
    clear hi
    go_enter Tryd.func25, Tryd.ntmps25
    go_wp2
    go_ret2
    exact ⟨rfl, rfl⟩
  · have hd1 : decide (i < 0) = false := decide_eq_false h1
    have h2 : (texts.length : Int) < i := by omega
    have hd2 : decide ((texts.length : Int) < i) = true := decide_eq_true h2
    clear hi
    go_enter Tryd.func25, Tryd.ntmps25
    go_wp2
    go_ret2
    exact ⟨rfl, rfl⟩
theorem growth_ends (texts : List (List UInt8)) (S : Nat → Prop) (g : Nat) (tp : Option Addr) (cap i : Nat) (w : World) (h : TreeIn S texts g tp cap w) (hi : i = 0 ∨ i = texts.length) :
    Calls Tryd.prog 25 #[.pointer (some ⟨g, 0, none⟩), .int .i64 (i : Int)] w fun e' w' => e' = .returned (.tuple #[.slice none 0 0, .int .i64 0]) ∧ w = w' := by
  obtain ⟨_, _, _, _, hblk⟩ := h.block
  have c0 := hblk.cell (i := 0) rfl
  clear h hblk
  by_cases h1 : i = 0
  · subst h1
    clear hi
    rw [show ((0 : Nat) : Int) = 0 from rfl]
    go_enter Tryd.func25, Tryd.ntmps25
    go_wp2
    go_ret2
    exact ⟨rfl, rfl⟩
  · obtain rfl : i = texts.length := by omega
    have h2 : ((texts.length : Int) == 0) = false := by rw [beq_eq_false_iff_ne]; omega
    clear hi h1
    go_enter Tryd.func25, Tryd.ntmps25
    go_wp2
    go_ret2
    exact ⟨rfl, rfl⟩
set_option maxHeartbeats 8000000 in
theorem growth_in (S : Nat → Prop) (texts : List (List UInt8)) (g : Nat) (tp : Option Addr) (cap i : Nat) (w : World) (hK : Ks w) (hkg : 2 ≠ g) (htl : texts.length ≤ 1099511627776) (hts : ∀ s ∈ texts, s.length ≤ 1099511627776)
    (h : TreeIn S texts g tp cap w) (hS : ∀ x, w.heap.size ≤ x → S x) (hi0 : 0 < i) (hi : i < texts.length) :
    Calls Tryd.prog 25 #[.pointer (some ⟨g, 0, none⟩), .int .i64 (i : Int)] w fun e' w' => ∃ v, e' = .returned (.tuple #[v, .int .i64 0]) ∧ w'.ownsRow w.heap.size 9 1 v (growD texts 0 texts.length i).length (strsV (growD texts 0 texts.length i).reverse) ∧ KeptG g w w' ∧ Below g w w' ∧ TreeIn S texts g tp cap w' := by
  obtain ⟨_, _, _, _, hblk⟩ := h.block
  have c0 := hblk.cell (i := 0) rfl
  have hgl := hblk.lt
  have HM := Lib.hid (made_any S texts g tp cap w hK hkg htl hts h hS)
  obtain ⟨D, hD⟩ : ∃ D, D = growD texts 0 texts.length i := ⟨_, rfl⟩
  rw [← hD]
  have hDl : D.length ≤ 1099511627776 := by rw [hD]; exact Nat.le_trans (growD_length texts _ 0 _ i (Nat.le_refl _) htl hi0 (by omega)) htl
  have HD := Lib.hid hD
  have hiI : (i : Int) < (texts.length : Int) := by omega
  have hi0I : ¬ (i : Int) = 0 := by omega
  have hi1I : ((i : Int) == 0) = false := by rw [beq_eq_false_iff_ne]; omega
  have hi2I : ((i : Int) == (texts.length : Int)) = false := by rw [beq_eq_false_iff_ne]; omega
  have hi3 : i ≠ 0 := by omega
  clear hK h hS hblk hD hts
  go_enter Tryd.func25, Tryd.ntmps25
  go_wp2_with fail
  go_at_call 40
  refine HM.out.mono ?_
  rintro e w1 ⟨b, rfl, hk, hb, L, hm⟩
  clear c0
  have c0 : w1.cell? ⟨g, 0, none⟩ = some (.slice tp texts.length cap) := by obtain ⟨x3, hg⟩ := hm.2.2.2.1; exact hg.cell rfl
  have hbl := hm.2.2.2.2.1.lt
  have HMM := Lib.hid hm
  have HK1 := Lib.hid hk
  have HB1 := Lib.hid hb
  have hsz1 := hk.1
  clear hk hb hm
  go_wp2
  go_loopw [7] (fun u wr => ∃ (a n : Nat) (pre : List (List UInt8)), a + n ≤ texts.length ∧ a < i ∧ i ≤ a + n ∧ Under 0 texts.length a n ∧ pre ++ growD texts a n i = D ∧ IsBlk wr w1.heap.size #[.int .i64 (a : Int), .int .i64 (n : Int)] 78 ∧ wr.ownsRow w1.heap.size 9 1 u pre.length (strsV pre) ∧ Below w1.heap.size w1 wr) (fun _ wr => (intOf ((wr.cell? ⟨w1.heap.size, 1, none⟩).getD undef)).toNat)
  case atStart => exact ⟨0, texts.length, [], by omega, hi0, by omega, .self _ _, HD.out.symm, IsBlk.new _ _ _, ⟨by simp [strsV], Or.inl ⟨rfl, rfl⟩⟩, (Below.refl _ _).alloc (Nat.le_refl _) _⟩
  case round =>
  clear HD c0 hi0I hi1I hi2I hi3
  obtain ⟨a, n, pre, han, hai, hin, hun, hrel, hblk, hown, hbw⟩ := hrel
  have x0 := hblk.cell (i := 0) rfl
  have x1 := hblk.cell (i := 1) rfl
  have HREL := Lib.hid hrel
  have HO := Lib.hid hown
  have HBW := Lib.hid hbw
  have HX := Lib.hid hblk
  have HME : Hid (wr.cell? ⟨w1.heap.size, 1, none⟩ = some (.int .i64 (n : Int))) := Lib.hid (hblk.cell (i := 1) rfl)
  have HUN := Lib.hid hun
  have hsz := hbw.size
  have hxl := hblk.lt
  have hbx : w1.heap.size ≤ w1.heap.size := Nat.le_refl _
  have hpl : pre.length ≤ 1099511627776 := by
    have := congrArg List.length hrel
    rw [List.length_append] at this
    omega
  have hi1 : (a : Int) + (n : Int) ≤ 1099511627776 := by omega
  have hi3 : (n : Int) ≤ 1099511627776 := by omega
  clear hrel hown hbw hblk hun
  by_cases h1 : a + n ≤ i
  · have hnI : (a : Int) + (n : Int) ≤ (i : Int) := by omega
    by_cases h0 : 0 < a
    · have h0I : (0 : Int) < (a : Int) := by omega
      have hmr : MapIs wr b L := HMM.out.2.2.2.2.1.of_block (HBW.out.block b hbl)
      have hlk := lookup_made (x := (a : Int)) (y := (n : Int)) hmr HMM.out.2.2.2.2.2.1 HMM.out.2.2.2.2.2.2 HUN.out rfl rfl
      obtain ⟨R, hR⟩ : ∃ R, R = rootL (seg texts a n) := ⟨_, rfl⟩
      rw [← hR] at hlk
      have hp : pre ++ [R] = D := by rw [← HREL.out, growD_end h1 (by omega), if_pos h0, ← hR]
      have HP := Lib.hid hp
      have HNEW := Lib.hid (own_alloc (o := .cells #[.string (bs R)] 9) HO.out)
      clear HREL hR hmr hp
      go_wp2_with (at_builtin; refine push_at w1.heap.size rfl _ _ 22 9 (.string (bs [])) 16 rfl Tryd.underlying22 (by kernel_rfl) rfl (by decide) _ pre.length _ HNEW.out wr.heap.size 1 [.string (bs R)] (IsBlk.new _ _ _) rfl rfl rfl (by simp [Value.oneCell']) (by simp; omega) (by omega) ?_)
      intro v1 w2 hown hg
      have HO2 : Hid (w2.ownsRow w1.heap.size 9 1 v1 D.length (strsV D)) := Lib.hid (by rw [← HP.out]; simpa [strsV] using hown)
      have HB2 := Lib.hid (below_grown (HBW.out.alloc hsz _) hg (by simp; omega) (fun j hj => (HNEW.out.lt j hj).1))
      clear hown hg x0 x1 hlk
      go_wp2_with fail
      go_at_call 42
      refine (revs_any w1.heap.size D _ w2 HO2.out hDl).mono ?_
      rintro e' w3 ⟨rfl, hown, hb⟩
      have HO1 := Lib.hid hown
      have HB3 := Lib.hid hb
      clear hown hb
      go_wp2
      go_ret2
      refine ⟨_, rfl, own_base_le HO1.out (by omega), ?_, ?_, ?_⟩
      · have hb12 := HB2.out.trans HB3.out
        exact HK1.out.trans (KeptG.of_below hb12)
      · exact HB1.out.trans ((HB2.out.trans HB3.out).mono (by omega))
      · exact .inl ⟨b, L, HMM.out.ext_to (fun _ h _ => h) (fun x _ hx => (HB2.out.trans HB3.out).block x hx)⟩
    · have h0' : a = 0 := by omega
      subst h0'
      have hp : pre = D := by rw [← HREL.out, growD_end h1 (by omega), if_neg h0, List.append_nil]
      subst hp
      clear HREL h1 h0
      rw [show ((0 : Nat) : Int) = 0 from rfl] at x0
      go_wp2_with fail
      go_at_call 42
      refine (revs_any w1.heap.size pre _ wr HO.out hpl).mono ?_
      rintro e' w2 ⟨rfl, hown, hb⟩
      have HO1 := Lib.hid hown
      have HB2 := Lib.hid hb
      clear hown hb
      go_wp2
      go_ret2
      refine ⟨_, rfl, own_base_le HO1.out (by omega), ?_, ?_, ?_⟩
      · have hb12 := HBW.out.trans HB2.out
        exact HK1.out.trans (KeptG.of_below hb12)
      · exact HB1.out.trans ((HBW.out.trans HB2.out).mono (by omega))
      · exact .inl ⟨b, L, HMM.out.ext_to (fun _ h _ => h) (fun x _ hx => (HBW.out.trans HB2.out).block x hx)⟩
  · have h2 : 2 ≤ n := by omega
    have hnI : (i : Int) < (a : Int) + (n : Int) := by omega
    have hn40 : n ≤ 1099511627776 := by omega
    obtain ⟨ha, hb, hc⟩ := halfN_fits h2 hn40
    obtain ⟨k, hk⟩ : ∃ k, k = halfN n := ⟨_, rfl⟩
    have HKK := Lib.hid hk
    rw [← hk] at ha hb hc
    clear hk
    go_wp2_with fail
    go_at_call 41
    refine (half_any n h2 hn40 _).mono ?_
    rintro e' w2 ⟨he, rfl⟩
    rw [← HKK.out] at he
    subst he
    have hi1 : (a : Int) + (k : Int) ≤ 1099511627776 := by omega
    have hi2 : (k : Int) ≤ (n : Int) := by omega
    go_upto_region 12 with (fail)
    go_cut [10, 11] (fun u v wx => ∃ bl br : Nat, u = .pointer (some ⟨bl, 0, none⟩) ∧ v = .pointer (some ⟨br, 0, none⟩) ∧ IsBlk wx bl #[.int .i64 (a : Int), .int .i64 (k : Int)] 78 ∧ IsBlk wx br #[.int .i64 ((a : Int) + (k : Int)), .int .i64 ((n : Int) - (k : Int))] 78 ∧ bl ≠ br ∧ wr.heap.size ≤ bl ∧ wr.heap.size ≤ br ∧ Below wr.heap.size wr wx)
    case first =>
      refine mixB_start [16] (Cls wr) (by kernel_rfl) (Cls.of ((Below.refl _ _).drew)) (fun hCw => ?_)
      refine mixB_flt (by kernel_rfl) [0, 1, 2, 3, 4, 5, 6, 7, 8, 9, 10, 11, 12] 4 _ _ hCw (by kernel_rfl) ?_
      simp only [opsAt, List.map_cons, List.map_nil, List.toList_toArray, List.getD_cons_succ, List.getD_cons_zero]
      unfold Cls
      repeat (go_big_quiet_step (fail))
      refine wpQuiet_nil ?_
      (try rw [← Cls_def])
      refine mixB_br (i := 13) (j := 14) (fuel := 3) (by kernel_rfl) (by kernel_rfl) ?_ ?_
      · simp only [opsAt, List.map_cons, List.map_nil, List.toList_toArray, List.getD_cons_succ, List.getD_cons_zero]
        go_wp2_with (fail)
        refine ThenB.mk (hCw.trans ((Below.refl _ _).alloc (Nat.le_refl _) _)) (fun hCw => ?_)
        refine mixB_ch (i := 14) (fuel := 2) (by kernel_rfl) (by kernel_rfl) ?_
        simp only [opsAt, List.map_cons, List.map_nil, List.toList_toArray, List.getD_cons_succ, List.getD_cons_zero]
        go_wp2_with (fail)
        refine ThenB.mk (hCw.trans ((Below.refl _ _).alloc (Nat.le_refl _) _)) (fun hCw => ?_)
        refine mixB_ch (i := 15) (fuel := 1) (by kernel_rfl) (by kernel_rfl) ?_
        simp only [opsAt, List.map_cons, List.map_nil, List.toList_toArray, List.getD_cons_succ, List.getD_cons_zero]
        go_wp2_with (fail)
        refine ThenB.mk (Cls.of (((Below.refl _ _).drew.alloc (Nat.le_refl _) _).alloc (by simp) _)) (fun hCw => ?_)
        refine mixB_end [16] (by kernel_rfl) ?_
        simp only [opsAt, List.map_cons, List.map_nil, List.toList_toArray, List.getD_cons_succ, List.getD_cons_zero]
        go_wp2
        refine Calm.normal ?_
        go_wp2
        go_meet
        first | refine ⟨wr.heap.size, wr.heap.size + 1, rfl, rfl, (IsBlk.new _ _ _).alloc _, IsBlk.new_at (by simp), by omega, by omega, by omega, ((Below.refl _ _).drew.alloc (Nat.le_refl _) _).alloc (by simp)  _⟩ | refine ⟨wr.heap.size + 1, wr.heap.size, rfl, rfl, IsBlk.new_at (by simp), (IsBlk.new _ _ _).alloc _, by omega, by omega, by omega, ((Below.refl _ _).drew.alloc (Nat.le_refl _) _).alloc (by simp) _⟩
      · simp only [opsAt, List.map_cons, List.map_nil, List.toList_toArray, List.getD_cons_succ, List.getD_cons_zero]
        go_wp2_with (fail)
        refine ThenB.mk (hCw.trans ((Below.refl _ _).alloc (Nat.le_refl _) _)) (fun hCw => ?_)
        refine mixB_ch (i := 13) (fuel := 2) (by kernel_rfl) (by kernel_rfl) ?_
        simp only [opsAt, List.map_cons, List.map_nil, List.toList_toArray, List.getD_cons_succ, List.getD_cons_zero]
        go_wp2_with (fail)
        refine ThenB.mk (hCw.trans ((Below.refl _ _).alloc (Nat.le_refl _) _)) (fun hCw => ?_)
        refine mixB_ch (i := 15) (fuel := 1) (by kernel_rfl) (by kernel_rfl) ?_
        simp only [opsAt, List.map_cons, List.map_nil, List.toList_toArray, List.getD_cons_succ, List.getD_cons_zero]
        go_wp2_with (fail)
        refine ThenB.mk (Cls.of (((Below.refl _ _).drew.alloc (Nat.le_refl _) _).alloc (by simp) _)) (fun hCw => ?_)
        refine mixB_end [16] (by kernel_rfl) ?_
        simp only [opsAt, List.map_cons, List.map_nil, List.toList_toArray, List.getD_cons_succ, List.getD_cons_zero]
        go_wp2
        refine Calm.normal ?_
        go_wp2
        go_meet
        first | refine ⟨wr.heap.size, wr.heap.size + 1, rfl, rfl, (IsBlk.new _ _ _).alloc _, IsBlk.new_at (by simp), by omega, by omega, by omega, ((Below.refl _ _).drew.alloc (Nat.le_refl _) _).alloc (by simp)  _⟩ | refine ⟨wr.heap.size + 1, wr.heap.size, rfl, rfl, IsBlk.new_at (by simp), (IsBlk.new _ _ _).alloc _, by omega, by omega, by omega, ((Below.refl _ _).drew.alloc (Nat.le_refl _) _).alloc (by simp) _⟩
    case rest =>
      obtain ⟨bl, br, rfl, rfl, hbl2, hbr2, hne, hl1, hl2, hb2⟩ := hcut
      have hbx2 : IsBlk wc w1.heap.size #[.int .i64 (a : Int), .int .i64 (n : Int)] 78 := HX.out.ext hb2
      have HB2 := Lib.hid (HBW.out.trans (hb2.mono hsz))
      have HO2 := Lib.hid (own_ext HO.out hb2)
      have hszc := HB2.out.size
      have HBL := Lib.hid hbl2
      have HBR := Lib.hid hbr2
      have HBX := Lib.hid hbx2
      clear x0 x1 hb2 hbl2 hbr2 hbx2 HX HO HBW
      have hown1 := own_ne HO2.out HBX.out (by decide)
      have hown2 := own_ne HO2.out HBL.out (by decide)
      have hown3 := own_ne HO2.out HBR.out (by decide)
      have HU1 : Hid (Under 0 texts.length a k) := Lib.hid (HUN.out.trans (.left h2 (by rw [← HKK.out]; exact .self _ _)))
      have HU2 : Hid (Under 0 texts.length (a + k) (n - k)) := Lib.hid (HUN.out.trans (.right h2 (by rw [← HKK.out]; exact .self _ _)))
      have hmW : MapIs wc b L := HMM.out.2.2.2.2.1.of_block (HB2.out.block b hbl)
      have r0 := HBR.out.cell (i := 0) rfl
      have HRR0 := Lib.hid r0
      by_cases hlt : i ≤ a + k
      · have hltI : (i : Int) ≤ (a : Int) + (k : Int) := by omega
        have hst : growD texts a n i = rootL (seg texts (a + k) (n - k)) :: growD texts a k i := by rw [HKK.out]; exact growD_left hn40 hai (by omega) (by rw [← HKK.out]; exact hlt)
        have hlk := lookup_made (x := ((a : Int) + (k : Int))) (y := ((n : Int) - (k : Int))) hmW HMM.out.2.2.2.2.2.1 HMM.out.2.2.2.2.2.2 HU2.out (by omega) (by omega)
        obtain ⟨R, hR⟩ : ∃ R, R = rootL (seg texts (a + k) (n - k)) := ⟨_, rfl⟩
        rw [← hR] at hlk
        have hrel2 : (pre ++ [R]) ++ growD texts a k i = D := by rw [← HREL.out, hst, ← hR, List.append_assoc]; rfl
        have HREL2 := Lib.hid hrel2
        have HNEW := Lib.hid (own_alloc (o := .cells #[.string (bs R)] 9) HO2.out)
        clear hst hrel2 hR hmW
        have l0 := HBR.out.cell (i := 0) rfl
        have l1 := HBR.out.cell (i := 1) rfl
        go_wp2_with (at_builtin; refine push_at w1.heap.size rfl _ _ 22 9 (.string (bs [])) 16 rfl Tryd.underlying22 (by kernel_rfl) rfl (by decide) _ pre.length _ HNEW.out wc.heap.size 1 [.string (bs R)] (IsBlk.new _ _ _) rfl rfl rfl (by simp [Value.oneCell']) (by simp; omega) (by omega) ?_)
        intro v1 w2 hown hg
        have HO3 : Hid (w2.ownsRow w1.heap.size 9 1 v1 (pre ++ [R]).length (strsV (pre ++ [R]))) := Lib.hid (by simpa [strsV] using hown)
        have HB3 := Lib.hid (below_grown (HB2.out.alloc hszc _) hg (by simp; omega) (fun j hj => (HNEW.out.lt j hj).1))
        have hbx3 := blk_grown (HBX.out.alloc _) hg hown1
        have hbn3 := blk_grown (HBL.out.alloc _) hg hown2
        clear r0 l0 l1 hlk
        have l0 := hbn3.cell (i := 0) rfl
        have l1 := hbn3.cell (i := 1) rfl
        have x0 := hbx3.cell (i := 0) rfl
        have x1 := hbx3.cell (i := 1) rfl
        have f0 := hbx3.frozen 0
        have f1 := hbx3.frozen 1
        have hne3 := own_ne HO3.out hbx3 (by decide)
        have hbxW : IsBlk ((w2.setCell ⟨w1.heap.size, 0, none⟩ (.int .i64 (a : Int))).setCell ⟨w1.heap.size, 1, none⟩ (.int .i64 (k : Int))) w1.heap.size #[.int .i64 (a : Int), .int .i64 (k : Int)] 78 := by simpa using (hbx3.set 0 (.int .i64 (a : Int))).set 1 (.int .i64 (k : Int))
        have HF : Hid (∃ (a' n' : Nat) (pre : List (List UInt8)), a' + n' ≤ texts.length ∧ a' < i ∧ i ≤ a' + n' ∧ Under 0 texts.length a' n' ∧ pre ++ growD texts a' n' i = D ∧ IsBlk ((w2.setCell ⟨w1.heap.size, 0, none⟩ (.int .i64 (a : Int))).setCell ⟨w1.heap.size, 1, none⟩ (.int .i64 (k : Int))) w1.heap.size #[.int .i64 (a' : Int), .int .i64 (n' : Int)] 78 ∧ ((w2.setCell ⟨w1.heap.size, 0, none⟩ (.int .i64 (a : Int))).setCell ⟨w1.heap.size, 1, none⟩ (.int .i64 (k : Int))).ownsRow w1.heap.size 9 1 v1 pre.length (strsV pre) ∧ Below w1.heap.size w1 ((w2.setCell ⟨w1.heap.size, 0, none⟩ (.int .i64 (a : Int))).setCell ⟨w1.heap.size, 1, none⟩ (.int .i64 (k : Int)))) := Lib.hid (by
          refine ⟨a, k, pre ++ [R], by omega, by omega, by omega, HU1.out, HREL2.out, hbxW, own_other HO3.out (fun q hq => ?_), below_set (below_set HB3.out hbx) hbx⟩
          have n1 : q ≠ w1.heap.size := fun e => hne3 (e ▸ hq)
          rw [Below.heap_setCell _ _ _ _ n1, Below.heap_setCell _ _ _ _ n1])
        have HC1 : Hid (((w2.setCell ⟨w1.heap.size, 0, none⟩ (.int .i64 (a : Int))).setCell ⟨w1.heap.size, 1, none⟩ (.int .i64 (k : Int))).cell? ⟨w1.heap.size, 1, none⟩ = some (.int .i64 (k : Int))) := Lib.hid (hbxW.cell (i := 1) rfl)
        clear hbx3 hbn3 hown hg hbxW hne3 hltI
        go_wp2
        go_roundw
        case rel => exact HF.out
        case measure =>
          have e1 := HME.out
          have e2 := HC1.out
          simp only [e1, e2, Option.getD_some, intOf]
          omega
      · have hltI : (a : Int) + (k : Int) < (i : Int) := by omega
        have hst : growD texts a n i = rootL (seg texts a k) :: growD texts (a + k) (n - k) i := by rw [HKK.out]; exact growD_right hn40 hai (by omega) (by rw [← HKK.out]; exact hlt)
        have hlk := lookup_made (x := (a : Int)) (y := (k : Int)) hmW HMM.out.2.2.2.2.2.1 HMM.out.2.2.2.2.2.2 HU1.out (by omega) (by omega)
        obtain ⟨R, hR⟩ : ∃ R, R = rootL (seg texts a k) := ⟨_, rfl⟩
        rw [← hR] at hlk
        have hrel2 : (pre ++ [R]) ++ growD texts (a + k) (n - k) i = D := by rw [← HREL.out, hst, ← hR, List.append_assoc]; rfl
        have HREL2 := Lib.hid hrel2
        have HNEW := Lib.hid (own_alloc (o := .cells #[.string (bs R)] 9) HO2.out)
        clear hst hrel2 hR hmW
        have l0 := HBL.out.cell (i := 0) rfl
        have l1 := HBL.out.cell (i := 1) rfl
        go_wp2_with (at_builtin; refine push_at w1.heap.size rfl _ _ 22 9 (.string (bs [])) 16 rfl Tryd.underlying22 (by kernel_rfl) rfl (by decide) _ pre.length _ HNEW.out wc.heap.size 1 [.string (bs R)] (IsBlk.new _ _ _) rfl rfl rfl (by simp [Value.oneCell']) (by simp; omega) (by omega) ?_)
        intro v1 w2 hown hg
        have HO3 : Hid (w2.ownsRow w1.heap.size 9 1 v1 (pre ++ [R]).length (strsV (pre ++ [R]))) := Lib.hid (by simpa [strsV] using hown)
        have HB3 := Lib.hid (below_grown (HB2.out.alloc hszc _) hg (by simp; omega) (fun j hj => (HNEW.out.lt j hj).1))
        have hbx3 := blk_grown (HBX.out.alloc _) hg hown1
        have hbn3 := blk_grown (HBR.out.alloc _) hg hown3
        clear r0 l0 l1 hlk
        have l0 := hbn3.cell (i := 0) rfl
        have l1 := hbn3.cell (i := 1) rfl
        have x0 := hbx3.cell (i := 0) rfl
        have x1 := hbx3.cell (i := 1) rfl
        have f0 := hbx3.frozen 0
        have f1 := hbx3.frozen 1
        have hne3 := own_ne HO3.out hbx3 (by decide)
        have hbxW : IsBlk ((w2.setCell ⟨w1.heap.size, 0, none⟩ (.int .i64 ((a : Int) + (k : Int)))).setCell ⟨w1.heap.size, 1, none⟩ (.int .i64 ((n : Int) - (k : Int)))) w1.heap.size #[.int .i64 ((a : Int) + (k : Int)), .int .i64 ((n : Int) - (k : Int))] 78 := by simpa using (hbx3.set 0 (.int .i64 ((a : Int) + (k : Int)))).set 1 (.int .i64 ((n : Int) - (k : Int)))
        have HF : Hid (∃ (a' n' : Nat) (pre : List (List UInt8)), a' + n' ≤ texts.length ∧ a' < i ∧ i ≤ a' + n' ∧ Under 0 texts.length a' n' ∧ pre ++ growD texts a' n' i = D ∧ IsBlk ((w2.setCell ⟨w1.heap.size, 0, none⟩ (.int .i64 ((a : Int) + (k : Int)))).setCell ⟨w1.heap.size, 1, none⟩ (.int .i64 ((n : Int) - (k : Int)))) w1.heap.size #[.int .i64 (a' : Int), .int .i64 (n' : Int)] 78 ∧ ((w2.setCell ⟨w1.heap.size, 0, none⟩ (.int .i64 ((a : Int) + (k : Int)))).setCell ⟨w1.heap.size, 1, none⟩ (.int .i64 ((n : Int) - (k : Int)))).ownsRow w1.heap.size 9 1 v1 pre.length (strsV pre) ∧ Below w1.heap.size w1 ((w2.setCell ⟨w1.heap.size, 0, none⟩ (.int .i64 ((a : Int) + (k : Int)))).setCell ⟨w1.heap.size, 1, none⟩ (.int .i64 ((n : Int) - (k : Int))))) := Lib.hid (by
          refine ⟨a + k, n - k, pre ++ [R], by omega, by omega, by omega, HU2.out, HREL2.out, by rw [show ((a + k : Nat) : Int) = (a : Int) + (k : Int) by omega, show ((n - k : Nat) : Int) = (n : Int) - (k : Int) by omega]; exact hbxW, own_other HO3.out (fun q hq => ?_), below_set (below_set HB3.out hbx) hbx⟩
          have n1 : q ≠ w1.heap.size := fun e => hne3 (e ▸ hq)
          rw [Below.heap_setCell _ _ _ _ n1, Below.heap_setCell _ _ _ _ n1])
        have HC1 : Hid (((w2.setCell ⟨w1.heap.size, 0, none⟩ (.int .i64 ((a : Int) + (k : Int)))).setCell ⟨w1.heap.size, 1, none⟩ (.int .i64 ((n : Int) - (k : Int)))).cell? ⟨w1.heap.size, 1, none⟩ = some (.int .i64 ((n : Int) - (k : Int)))) := Lib.hid (hbxW.cell (i := 1) rfl)
        clear hbx3 hbn3 hown hg hbxW hne3 hltI
        go_wp2
        go_roundw
        case rel => exact HF.out
        case measure =>
          have e1 := HME.out
          have e2 := HC1.out
          simp only [e1, e2, Option.getD_some, intOf]
          omega
end Go.Proofs.YtfnlehnhcekpkaaDoor

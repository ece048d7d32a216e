/- The document's Top. Conditions: peaks' texts no longer than 2^40 bytes. -/
import Derived.Test.YtfnlehnhcekpkaaDoorMkX
set_option linter.unusedVariables false
set_option linter.unusedSimpArgs false
namespace Go.Proofs.YtfnlehnhcekpkaaDoor
open Go Go.RowKit Go.BigFrame
set_option maxRecDepth 100000

set_option maxHeartbeats 8000000 in
theorem rtop_any (c : Int) (tops : List (List UInt8)) (S : Nat → Prop) (p : Option Addr) (cap : Nat) (w : World) (hs : HasS S w p tops) (hn : tops.length ≤ 1099511627776) (hts : ∀ s ∈ tops, s.length ≤ 1099511627776) :
    Calls Tryd.prog 14 #[.agg #[.int .i64 c, .slice p tops.length cap]] w (TopPost c tops w) := by
  have hW : IsBlk (w.alloc (.cells #[.int .i64 c, .slice p tops.length cap] 24)) w.heap.size #[.int .i64 c, .slice p tops.length cap] 24 := IsBlk.new _ _ _
  have hbw : Below w.heap.size w (w.alloc (.cells #[.int .i64 c, .slice p tops.length cap] 24)) := (Below.refl _ _).alloc (Nat.le_refl _) _
  have HR := Lib.hid (rpeaks_any c tops S p cap _ (hs.ext hbw) hn hts)
  have HS := Lib.hid hs
  have HTS := Lib.hid hts
  obtain ⟨n, hnl⟩ : ∃ n, n = tops.length := ⟨_, rfl⟩
  rw [← hnl] at hW hbw HR hn ⊢
  have HN := Lib.hid hnl
  have HW := Lib.hid hW
  have HBW := Lib.hid hbw
  clear hs hts hnl hW hbw
  unfold TopPost
  obtain ⟨B, hB⟩ : ∃ B, B = peaksB c tops := ⟨_, rfl⟩
  rw [← hB] at HR ⊢
  have HB := Lib.hid hB
  clear hB
  go_enter Tryd.func14, Tryd.ntmps14
  go_wp2_with fail
  go_at_call 35
  refine HR.out.mono ?_
  rintro e' w2 ⟨rfl, hb2⟩
  have HB2 := Lib.hid (HBW.out.trans (hb2.mono HBW.out.size))
  have hW2 := HW.out.ext hb2
  have x0 := hW2.cell (i := 0) rfl
  have x1 := hW2.cell (i := 1) rfl
  have HW2 := Lib.hid hW2
  clear hb2 hW2
  cases B
  · go_wp2
    go_ret2
    exact ⟨rfl, HB2.out⟩
  by_cases h0 : c = 0
  · subst h0
    go_wp2_with fail
    go_at_call 38
    refine (rsum_l [] _ rfl _ (by simp)).mono ?_
    rintro e' w3 ⟨rfl, hb3⟩
    have HB3 := Lib.hid (HB2.out.trans (hb3.mono HB2.out.size))
    clear hb3
    go_wp2
    go_ret2
    exact ⟨rfl, HB3.out⟩
  have q0 : (c == 0) = false := by rw [beq_eq_false_iff_ne]; exact h0
  have hpk : peaksB c tops = true := HB.out.symm
  unfold peaksB at hpk
  simp only [Bool.and_eq_true, decide_eq_true_eq] at hpk
  obtain ⟨hc0, hc1, hlen, hdig⟩ := hpk
  have hn1 : 1 ≤ n := by rw [HN.out, hlen]; exact onesN_pos _ (by omega) (by omega)
  have hat : n - 1 < tops.length := by rw [← HN.out]; omega
  obtain ⟨g, o, rfl, _, hg, hcl⟩ := HS.out (n - 1) hat
  have hcl2 := (HB2.out.cell (p := ⟨g, o + (n - 1), none⟩) hg).trans hcl
  have hall : ∀ s ∈ tops, s.length = 32 := by
    have h := hdig
    unfold dig32 at h
    rw [List.all_eq_true] at h
    intro s hs
    simpa using h s hs
  have hl32 : tops[n - 1].length = 32 := hall _ (List.getElem_mem hat)
  have htop : topL tops = foldT tops[n - 1] tops.dropLast := by
    unfold topL
    rw [List.getLast?_eq_getElem?, ← HN.out, List.getElem?_eq_getElem hat]
    rfl
  have HALL := Lib.hid hall
  generalize tops[n - 1] = t0 at hcl2 hl32 htop
  have HTOP := Lib.hid htop
  obtain ⟨m, rfl⟩ : ∃ m, n = m + 1 := ⟨n - 1, by omega⟩
  rw [Nat.add_sub_cancel] at hcl2
  have HL32 := Lib.hid hl32
  clear hcl hlen hdig htop hat hc1 hn1 hall hl32
  obtain ⟨R, hR⟩ : ∃ R, R = topL tops := ⟨_, rfl⟩
  have HRT := Lib.hid hR
  have H0 := Lib.hid h0
  have hRm : foldT t0 (tops.take m) = R := by rw [hR, HTOP.out, List.dropLast_eq_take, ← HN.out]; rfl
  have HRM := Lib.hid hRm
  clear hRm hR
  go_wp2
  go_loopw [4, 5] (fun a b wr => ∃ (r : Nat) (x : List UInt8), r ≤ m ∧ a = .string (bs x) ∧ b = .int .i64 ((r : Int) - 1) ∧ x.length = 32 ∧ foldT x (tops.take r) = R ∧ Below w2.heap.size w2 wr) (fun _ b _ => (intOf b + 1).toNat)
  case atStart => exact ⟨m, t0, Nat.le_refl _, rfl, by first | rfl | (congr 1; omega), HL32.out, HRM.out, Below.refl _ _⟩
  case round =>
  clear x0 x1 hcl2
  obtain ⟨r, x, hr, rfl, rfl, hx, hrel, hbw⟩ := hrel
  have HREL := Lib.hid hrel
  have HBR := Lib.hid hbw
  have HX := Lib.hid hx
  have hW3 := HW2.out.ext hbw
  have x1 := hW3.cell (i := 1) rfl
  clear hrel hbw hx hW3
  rcases Nat.eq_zero_or_pos r with rfl | hr0
  · have hx : x = R := by rw [← HREL.out, List.take_zero]; rfl
    have HBF := Lib.hid (HB2.out.trans (HBR.out.mono HB2.out.size))
    have hxt : x = topL tops := hx.trans HRT.out
    have HXT := Lib.hid hxt
    clear hx hxt
    rw [show ((0 : Nat) : Int) - 1 = -1 from rfl]
    go_wp2
    go_ret2
    exact ⟨by first | (rw [HXT.out]; rfl) | (rw [if_neg (by decide), if_neg H0.out, ← HXT.out]; rfl), HBF.out⟩
  · obtain ⟨r, rfl⟩ : ∃ k, r = k + 1 := ⟨r - 1, by omega⟩
    rw [show ((r + 1 : Nat) : Int) - 1 = (r : Int) by omega]
    have hat : r < tops.length := by rw [← HN.out]; omega
    obtain ⟨g', o', hp, _, hg', hcl⟩ := HS.out r hat
    simp only [Option.some.injEq, Addr.mk.injEq] at hp
    obtain ⟨rfl, rfl, _⟩ := hp
    have hb02 := HB2.out.trans (HBR.out.mono HB2.out.size)
    have hcr := (hb02.cell (p := ⟨g, o + r, none⟩) hg').trans hcl
    have hl := HALL.out _ (List.getElem_mem hat)
    have hst : foldT x (tops.take (r + 1)) = foldT (nodeL tops[r] x) (tops.take r) := by
      rw [List.take_add_one, List.getElem?_eq_getElem hat]
      exact foldT_snoc x (tops.take r) tops[r]
    generalize tops[r] = t at hcr hl hst
    have HST := Lib.hid hst
    have hxl := HX.out
    have hrI : (r : Int) < (m : Int) + 1 := by omega
    clear hcl hst hb02 hat
    go_wp2_with fail
    go_at_call 37
    refine (rnode_any t x wr (by omega) (by omega)).mono ?_
    rintro e' w4 ⟨rfl, hb⟩
    have HB4 := Lib.hid (below_ext HBR.out hb)
    have hrel2 : foldT (nodeL t x) (tops.take r) = R := by rw [← HREL.out, HST.out]
    have HREL2 := Lib.hid hrel2
    have h32 := nodeL_length t x
    clear hb hrel2
    go_wp2
    go_roundw
    case rel => exact ⟨r, _, by omega, rfl, by first | rfl | (congr 1; omega), h32, HREL2.out, HB4.out⟩
    case measure => first | (simp [intOf]; done) | (simp [intOf]; omega)
end Go.Proofs.YtfnlehnhcekpkaaDoor

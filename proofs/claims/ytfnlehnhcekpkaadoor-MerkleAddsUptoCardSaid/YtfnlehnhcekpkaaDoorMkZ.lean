/- The document's Add. Conditions: peaks' texts and the text no longer than 2^40 bytes. -/
import Derived.Test.YtfnlehnhcekpkaaDoorMkY
import Derived.Test.YtfnlehnhcekpkaaDoorPushArg
set_option linter.unusedVariables false
set_option linter.unusedSimpArgs false
namespace Go.Proofs.YtfnlehnhcekpkaaDoor
open Go Go.RowKit Go.BigFrame
set_option maxRecDepth 100000

/-- What the document's Add holds behind j joins. -/
def stepL (tops : List (List UInt8)) (x : List UInt8) (r : Nat) : List (List UInt8) := tops.take r ++ [foldT x (tops.drop r)]
theorem stepL_length {tops : List (List UInt8)} {x : List UInt8} {r : Nat} (h : r ≤ tops.length) : (stepL tops x r).length = r + 1 := by
  unfold stepL
  rw [List.length_append, List.length_take]
  simp
  omega
theorem stepL_all (tops : List (List UInt8)) (x : List UInt8) : stepL tops x tops.length = tops ++ [x] := by
  unfold stepL
  rw [List.take_length, List.drop_length]
  rfl
theorem foldT_drop {tops : List (List UInt8)} {x : List UInt8} {r : Nat} (h : r < tops.length) : foldT x (tops.drop r) = nodeL tops[r] (foldT x (tops.drop (r + 1))) := by
  rw [List.drop_eq_getElem_cons h]
  rfl
theorem foldT_length {x : List UInt8} (h : x.length = 32) : ∀ l : List (List UInt8), (foldT x l).length = 32
  | [] => h
  | _ :: _ => nodeL_length _ _
set_option maxHeartbeats 8000000 in
theorem radd_any (c : Int) (tops : List (List UInt8)) (s : List UInt8) (S : Nat → Prop) (p : Option Addr) (cap : Nat) (w : World) (hsl : s.length ≤ 1099511627776) (hnone : p = none → cap = 0) (hs : HasS S w p tops) (hn : tops.length ≤ 1099511627776) (hts : ∀ s ∈ tops, s.length ≤ 1099511627776) :
    Calls Tryd.prog 12 #[.agg #[.int .i64 c, .slice p tops.length cap], .string (bs s)] w (AddPost c tops s w) := by
  have hW : IsBlk ((w.alloc (.cells #[.int .i64 c, .slice p tops.length cap] 24)).alloc (.cells #[.int .i64 0, .slice none 0 0] 24)) w.heap.size #[.int .i64 c, .slice p tops.length cap] 24 := (IsBlk.new _ _ _).alloc _
  have hW' : IsBlk ((w.alloc (.cells #[.int .i64 c, .slice p tops.length cap] 24)).alloc (.cells #[.int .i64 0, .slice none 0 0] 24)) (w.heap.size + 1) #[.int .i64 0, .slice none 0 0] 24 := IsBlk.new_at (by simp)
  have hbw : Below w.heap.size w ((w.alloc (.cells #[.int .i64 c, .slice p tops.length cap] 24)).alloc (.cells #[.int .i64 0, .slice none 0 0] 24)) := ((Below.refl _ _).alloc (Nat.le_refl _) _).alloc (by simp) _
  have HR := Lib.hid (rpeaks_any c tops S p cap _ (hs.ext hbw) hn hts)
  have HS := Lib.hid hs
  obtain ⟨n, hnl⟩ : ∃ n, n = tops.length := ⟨_, rfl⟩
  rw [← hnl] at hW hW' hbw HR hn ⊢
  have HN := Lib.hid hnl
  have HW := Lib.hid hW
  have HW' := Lib.hid hW'
  have HBW := Lib.hid hbw
  clear hs hts hnl hW hbw hW'
  unfold AddPost addE addC addT
  obtain ⟨B, hB⟩ : ∃ B, B = peaksB c tops := ⟨_, rfl⟩
  rw [← hB] at HR ⊢
  have HB := Lib.hid hB
  clear hB
  go_enter Tryd.func12, Tryd.ntmps12
  go_wp2_with fail
  go_at_call 35
  refine HR.out.mono ?_
  rintro e' w2 ⟨rfl, hb2⟩
  have HB2 := Lib.hid (HBW.out.trans (hb2.mono HBW.out.size))
  have hW2 := HW.out.ext hb2
  have hW3 := HW'.out.ext hb2
  have x0 := hW2.cell (i := 0) rfl
  have x1 := hW2.cell (i := 1) rfl
  have y0 := hW3.cell (i := 0) rfl
  have y1 := hW3.cell (i := 1) rfl
  have f0 := hW3.frozen 0
  have f1 := hW3.frozen 1
  have HW2 := Lib.hid hW2
  have HW3 := Lib.hid hW3
  clear hb2 hW2 hW3
  have hnil : ∀ w', Below w.heap.size w w' → IsBlk w' (w.heap.size + 1) #[.int .i64 0, .slice none 0 0] 24 → Below w.heap.size w ((w'.setCell ⟨w.heap.size + 1, 0, none⟩ (.int .i64 0)).setCell ⟨w.heap.size + 1, 1, none⟩ (.slice none 0 0)) ∧ IsBlk ((w'.setCell ⟨w.heap.size + 1, 0, none⟩ (.int .i64 0)).setCell ⟨w.heap.size + 1, 1, none⟩ (.slice none 0 0)) (w.heap.size + 1) #[.int .i64 0, .slice none 0 0] 24 := fun w' hb hg =>
    ⟨below_set (below_set hb (by omega)) (by omega), by simpa using (hg.set 0 (.int .i64 0)).set 1 (.slice none 0 0)⟩
  have HNIL := Lib.hid hnil
  clear hnil
  cases B
  · go_wp2
    exact bodyPost_ret (results_ct rfl rfl (HNIL.out _ HB2.out HW3.out).2 Tryd.underlying24 rfl (by kernel_rfl) rfl) rfl ⟨_, rfl, World.ownsRow_nil _ _ _ _, (HNIL.out _ HB2.out HW3.out).1⟩
  by_cases h0 : c = 1024
  · subst h0
    go_wp2
    exact bodyPost_ret (results_ct rfl rfl (HNIL.out _ HB2.out HW3.out).2 Tryd.underlying24 rfl (by kernel_rfl) rfl) rfl ⟨_, rfl, World.ownsRow_nil _ _ _ _, (HNIL.out _ HB2.out HW3.out).1⟩
  have q0 : (c == 1024) = false := by rw [beq_eq_false_iff_ne]; exact h0
  have hpk : peaksB c tops = true := HB.out.symm
  unfold peaksB at hpk
  simp only [Bool.and_eq_true, decide_eq_true_eq] at hpk
  obtain ⟨hc0, hc1, hlen, hdig⟩ := hpk
  obtain ⟨k, rfl⟩ : ∃ k : Nat, c = (k : Int) := ⟨c.toNat, by omega⟩
  rw [Int.toNat_natCast] at hlen
  have hk : k < 1024 := by omega
  have htz := tzN_le (c := k) (by omega)
  rw [← hlen, ← HN.out] at htz
  have hn12 : n ≤ 12 := by rw [HN.out, hlen]; exact onesF_le 12 k
  have hall : ∀ s ∈ tops, s.length = 32 := by
    have h := hdig
    unfold dig32 at h
    rw [List.all_eq_true] at h
    intro s hs
    simpa using h s hs
  have HALL := Lib.hid hall
  have hlt2 := HW2.out.lt
  have hlt3 := HW3.out.lt
  have hll := leafL_length s
  have hsz2 := HB2.out.size
  clear hlen hdig h0 hc0 hc1 hall y0 y1 f0 f1
  have hE : IsBlk (w2.alloc (.cells #[] 9)) w2.heap.size #[] 9 := IsBlk.new _ _ _
  have hO0 : (w2.alloc (.cells #[] 9)).ownsRow w.heap.size 9 1 (.slice (some ⟨w2.heap.size, 0, none⟩) 0 0) 0 [] := own_lit hE hsz2 rfl (by decide)
  have HO0 := Lib.hid hO0
  have HS2 := Lib.hid (HS.out.ext (HB2.out.alloc hsz2 (.cells #[] 9)))
  clear hE hO0
  go_wp2_with (at_builtin; refine push_texts w.heap.size rfl _ _ rfl (.slice (some ⟨w2.heap.size, 0, none⟩) 0 0) [] HO0.out S p cap tops HS2.out hnone rfl (by rw [← HN.out]; rfl) (by simp; omega) (by rw [← HN.out]; simp; omega) ?_)
  intro v1 w3 hown hg
  have HO1 : Hid (w3.ownsRow w.heap.size 9 1 v1 n (strsV tops)) := Lib.hid (by rw [HN.out]; simpa [strsV] using hown)
  have HB3 := Lib.hid (below_grown (HB2.out.alloc hsz2 (.cells #[] 9)) hg (by simp; omega) (fun j hj => (HO0.out.lt j hj).1))
  have hR3 := blk_grown (HW3.out.alloc (.cells #[] 9)) hg (own_ne HO0.out (HW3.out.alloc _) (by decide))
  have hP3 := blk_grown (HW2.out.alloc (.cells #[] 9)) hg (own_ne HO0.out (HW2.out.alloc _) (by decide))
  have HR3 := Lib.hid hR3
  have HP3 := Lib.hid hP3
  have hsz3 := HB3.out.size
  clear hown hg hR3 hP3 x0 x1
  go_wp2_with fail
  go_at_call 36
  refine (rleaf_any s w3 hsl).mono ?_
  rintro e' w4 ⟨rfl, hb4⟩
  obtain ⟨x, hx⟩ : ∃ x, x = leafL s := ⟨_, rfl⟩
  rw [← hx] at hll ⊢
  have HX := Lib.hid hx
  have HO2 := Lib.hid (own_alloc (own_ext HO1.out hb4) (.cells #[.string (bs x)] 9))
  have HB4 := Lib.hid (HB3.out.trans (hb4.mono hsz3))
  have hsz4 := HB4.out.size
  have HR4 := Lib.hid ((HR3.out.ext hb4).alloc (.cells #[.string (bs x)] 9))
  have HP4 := Lib.hid ((HP3.out.ext hb4).alloc (.cells #[.string (bs x)] 9))
  clear hx hb4
  go_wp2_with (at_builtin; refine push_at w.heap.size rfl _ _ 22 9 (.string (bs [])) 16 rfl Tryd.underlying22 (by kernel_rfl) rfl (by decide) _ n _ HO2.out w4.heap.size 1 [.string (bs x)] (IsBlk.new _ _ _) rfl rfl rfl (by simp [Value.oneCell']) (by simp; omega) (by omega) ?_)
  intro v5 w5 hown hg
  have HO5 : Hid (w5.ownsRow w.heap.size 9 1 v5 (n + 1) (strsV (stepL tops x n))) := Lib.hid (by rw [show stepL tops x n = tops ++ [x] by rw [HN.out]; exact stepL_all tops x]; simpa [strsV] using hown)
  have HB5 := Lib.hid (below_grown (HB4.out.alloc hsz4 _) hg (by simp; omega) (fun j hj => (HO2.out.lt j hj).1))
  have HR5 := Lib.hid (blk_grown HR4.out hg (own_ne HO2.out HR4.out (by decide)))
  have hP5 := blk_grown HP4.out hg (own_ne HO2.out HP4.out (by decide))
  have x0 := hP5.cell (i := 0) rfl
  have HP5 := Lib.hid hP5
  have hsz5 := HB5.out.size
  clear hown hg hP5
  go_wp2
  obtain ⟨tz, htzd⟩ : ∃ tz, tz = tzN k := ⟨_, rfl⟩
  rw [← htzd] at htz
  have HTZ := Lib.hid htzd
  have hstart : n = (n - tz) + tzF 64 k := by rw [show tzF 64 k = tz from htzd.symm]; omega
  have HST := Lib.hid hstart
  clear hstart htzd x0
  go_loopw [6, 7] (fun a b wr => ∃ (r f q : Nat), b = .int .i64 (q : Int) ∧ q ≤ 1024 ∧ q < 2 ^ f ∧ r = (n - tz) + tzF f q ∧ r ≤ n ∧ wr.ownsRow w.heap.size 9 1 a (r + 1) (strsV (stepL tops x r)) ∧ Below w.heap.size w wr ∧ IsBlk wr (w.heap.size + 1) #[.int .i64 0, .slice none 0 0] 24 ∧ IsBlk wr w.heap.size #[.int .i64 (k : Int), .slice p n cap] 24) (fun _ b _ => (intOf b).toNat)
  case atStart => exact ⟨n, 64, k, rfl, by omega, by omega, HST.out, Nat.le_refl _, HO5.out, HB5.out, HR5.out, HP5.out⟩
  case round =>
  clear HST HO5 HB5 HR5 HP5 hsz5
  obtain ⟨r, f, q, rfl, hq, hqf, hr, hrn, hown, hbw, hR, hP⟩ := hrel
  have HRQ := Lib.hid hr
  have HO := Lib.hid hown
  have HB := Lib.hid hbw
  have HRR := Lib.hid hR
  have HPP := Lib.hid hP
  have hsz := hbw.size
  clear hr hown hbw hR hP
  by_cases hodd : q % 2 = 1
  · have hcond : ((q : Int) % 2 == 1) = true := by rw [beq_iff_eq]; omega
    obtain ⟨f, rfl⟩ : ∃ e, f = e + 1 := ⟨f - 1, by cases f with
      | zero => simp at hqf; omega
      | succ f => rfl⟩
    rw [Nat.pow_succ] at hqf
    have hr1 : r = (n - tz) + 1 + tzF f (q / 2) := by have h := HRQ.out; rw [tzF, if_pos hodd] at h; omega
    obtain ⟨r, rfl⟩ : ∃ e, r = e + 1 := ⟨r - 1, by omega⟩
    have hr2 : r = (n - tz) + tzF f (q / 2) := by omega
    have HR2 := Lib.hid hr2
    have hat : r < tops.length := by rw [← HN.out]; omega
    obtain ⟨g5, c5, rfl, hg5, hg5l, _, hc5⟩ := own_open HO.out (by omega)
    have e1 : (stepL tops x (r + 1))[r]? = some tops[r] := by
      unfold stepL
      rw [List.getElem?_append_left (by rw [List.length_take]; omega), List.getElem?_take_of_lt (by omega), List.getElem?_eq_getElem hat]
    have e2 : (stepL tops x (r + 1))[r + 1]? = some (foldT x (tops.drop (r + 1))) := by
      unfold stepL
      rw [List.getElem?_append_right (by rw [List.length_take]; omega), List.length_take, show r + 1 - min (r + 1) tops.length = 0 by omega]
      rfl
    have c1 := hc5 r (.string (bs tops[r])) (by omega) (by unfold strsV; rw [List.getElem?_map, e1]; rfl)
    have c2 := hc5 (r + 1) (.string (bs (foldT x (tops.drop (r + 1))))) (by omega) (by unfold strsV; rw [List.getElem?_map, e2]; rfl)
    have hrow : HasS (fun _ => True) wr (some ⟨g5, 0, none⟩) (tops.take r) := fun i hi => by
      have hi2 : i < r := by rw [List.length_take] at hi; omega
      refine ⟨g5, 0, rfl, trivial, hg5l, ?_⟩
      rw [Nat.zero_add]
      refine hc5 i _ (by omega) ?_
      unfold strsV stepL
      rw [List.getElem?_map, List.getElem?_append_left (by rw [List.length_take]; omega), List.getElem?_take_of_lt (by omega), List.getElem?_eq_getElem (by omega), List.getElem_take]
      rfl
    have HROW := Lib.hid hrow
    have htl : (tops.take r).length = r := by rw [List.length_take]; omega
    have HTL := Lib.hid htl
    clear hrow htl
    have hfd := foldT_drop (x := x) hat
    have h32 := HALL.out _ (List.getElem_mem hat)
    obtain ⟨t, ht⟩ : ∃ t, t = tops[r] := ⟨_, rfl⟩
    obtain ⟨y, hy⟩ : ∃ y, y = foldT x (tops.drop (r + 1)) := ⟨_, rfl⟩
    rw [← ht] at c1 h32 hfd
    rw [← hy] at c2 hfd
    have HFD := Lib.hid hfd
    have hy32 : y.length = 32 := by rw [hy]; exact foldT_length hll _
    clear hc5 e1 e2 ht hy hfd hr1 hr2
    go_upto_region 9 with (fail)
    refine mixB_start [] (Cls wr) (by kernel_rfl) (Cls.of ((Below.refl _ _).drew)) (fun hCw => ?_)
    refine mixB_flt (by kernel_rfl) [0, 1, 2, 3, 4, 5, 6, 7, 8, 9, 10, 11] 2 _ _ hCw (by kernel_rfl) ?_
    simp only [opsAt, List.map_cons, List.map_nil, List.toList_toArray, List.getD_cons_succ, List.getD_cons_zero]
    unfold Cls
    repeat (go_big_quiet_step (fail))
    refine wpQuiet_nil ?_
    (try rw [← Cls_def])
    refine mixB_ch (i := 12) (fuel := 1) (by kernel_rfl) (by kernel_rfl) ?_
    simp only [opsAt, List.map_cons, List.map_nil, List.toList_toArray, List.getD_cons_succ, List.getD_cons_zero]
    go_wp2_with (go_at_call 37; refine (rnode_any t y _ (by omega) (by omega)).mono ?_; rintro e' w6 ⟨rfl, hb6⟩)
    refine ThenB.mk (hCw.trans hb6) (fun hCw => ?_)
    refine mixB_flt (by kernel_rfl) [13] 0 _ _ hCw (by kernel_rfl) ?_
    simp only [opsAt, List.map_cons, List.map_nil, List.toList_toArray, List.getD_cons_succ, List.getD_cons_zero]
    unfold Cls
    repeat (go_big_quiet_step (fail))
    refine wpQuiet_nil ?_
    (try rw [← Cls_def])
    refine mixB_end [] (by kernel_rfl) ?_
    refine wpList_nil ?_
    refine Calm.normal ?_
    have HB6 := Lib.hid (HB.out.trans (hCw.below.mono hsz))
    have hsz6 := HB6.out.size
    have HS6 := Lib.hid ((HROW.out.ext hCw.below).ext ((Below.refl _ _).alloc (Nat.le_refl _) (.cells #[] 9)))
    have HR6 := Lib.hid ((HRR.out.ext hCw.below).alloc (.cells #[] 9))
    have HP6 := Lib.hid ((HPP.out.ext hCw.below).alloc (.cells #[] 9))
    have hO6 : (w6.alloc (.cells #[] 9)).ownsRow w.heap.size 9 1 (.slice (some ⟨w6.heap.size, 0, none⟩) 0 0) 0 [] := own_lit (IsBlk.new _ _ _) hsz6 rfl (by decide)
    have HO6 := Lib.hid hO6
    clear hO6 hb6 c1 c2
    go_wp2_with (at_builtin; refine push_texts w.heap.size rfl _ _ rfl (.slice (some ⟨w6.heap.size, 0, none⟩) 0 0) [] HO6.out (fun _ => True) (some ⟨g5, 0, none⟩) c5 (tops.take r) HS6.out (fun h => by cases h) rfl (by rw [HTL.out]; rfl) (by simp; omega) (by rw [HTL.out]; simp; omega) ?_)
    intro v7 w7 hown hg
    have HO7 : Hid (w7.ownsRow w.heap.size 9 1 v7 r (strsV (tops.take r))) := Lib.hid (by have h := hown; rw [show min r tops.length = r by omega] at h; rw [strsV, List.map_take]; exact h)
    have HB7 := Lib.hid (below_grown (HB6.out.alloc hsz6 (.cells #[] 9)) hg (by simp; omega) (fun j hj => (HO6.out.lt j hj).1))
    have HR7 := Lib.hid (blk_grown HR6.out hg (own_ne HO6.out HR6.out (by decide)))
    have HP7 := Lib.hid (blk_grown HP6.out hg (own_ne HO6.out HP6.out (by decide)))
    have hsz7 := HB7.out.size
    have HO7a := Lib.hid (own_alloc HO7.out (.cells #[.string (bs (nodeL t y))] 9))
    have HR7a := Lib.hid (HR7.out.alloc (.cells #[.string (bs (nodeL t y))] 9))
    have HP7a := Lib.hid (HP7.out.alloc (.cells #[.string (bs (nodeL t y))] 9))
    clear hown hg
    go_wp2_with (at_builtin; refine push_at w.heap.size rfl _ _ 22 9 (.string (bs [])) 16 rfl Tryd.underlying22 (by kernel_rfl) rfl (by decide) _ r _ HO7a.out w7.heap.size 1 [.string (bs (nodeL t y))] (IsBlk.new _ _ _) rfl rfl rfl (by simp [Value.oneCell']) (by simp; omega) (by omega) ?_)
    intro v8 w8 hown hg
    have HO8 : Hid (w8.ownsRow w.heap.size 9 1 v8 (r + 1) (strsV (stepL tops x r))) := Lib.hid (by
      have e : strsV (stepL tops x r) = strsV (tops.take r) ++ [.string (bs (nodeL t y))] := by unfold stepL strsV; rw [List.map_append, HFD.out]; rfl
      rw [e]
      exact hown)
    have HB8 := Lib.hid (below_grown (HB7.out.alloc hsz7 _) hg (by simp; omega) (fun j hj => (HO7a.out.lt j hj).1))
    have HR8 := Lib.hid (blk_grown HR7a.out hg (own_ne HO7a.out HR7a.out (by decide)))
    have HP8 := Lib.hid (blk_grown HP7a.out hg (own_ne HO7a.out HP7a.out (by decide)))
    clear hown hg
    go_wp2
    go_roundw
    case rel => exact ⟨r, f, q / 2, by go_num, by omega, by omega, HR2.out, by omega, HO8.out, HB8.out, HR8.out, HP8.out⟩
    case measure => simp [intOf]; omega
  · have hcond : ((q : Int) % 2 == 1) = false := by rw [beq_eq_false_iff_ne]; omega
    have hr0 : r = n - tz := by
      have h := HRQ.out
      cases f with
      | zero => rw [tzF] at h; omega
      | succ f => rw [tzF, if_neg hodd] at h; omega
    have hadd : stepL tops x r = addL k tops s := by
      unfold stepL addL
      rw [hr0, HTZ.out, HX.out, ← HN.out]
    obtain ⟨g5, c5, rfl, _⟩ := own_open HO.out (by omega)
    have hne := own_ne HO.out HRR.out (by decide)
    have y0 := HRR.out.cell (i := 0) rfl
    have y1 := HRR.out.cell (i := 1) rfl
    have f0 := HRR.out.frozen 0
    have f1 := HRR.out.frozen 1
    have x0 := HPP.out.cell (i := 0) rfl
    have HADD := Lib.hid hadd
    have hend : IsBlk ((wr.setCell ⟨w.heap.size + 1, 0, none⟩ (.int .i64 ((k : Int) + 1))).setCell ⟨w.heap.size + 1, 1, none⟩ (.slice (some ⟨g5, 0, none⟩) (r + 1) c5)) (w.heap.size + 1) #[.int .i64 ((k : Int) + 1), .slice (some ⟨g5, 0, none⟩) (r + 1) c5] 24 ∧ ((wr.setCell ⟨w.heap.size + 1, 0, none⟩ (.int .i64 ((k : Int) + 1))).setCell ⟨w.heap.size + 1, 1, none⟩ (.slice (some ⟨g5, 0, none⟩) (r + 1) c5)).ownsRow w.heap.size 9 1 (.slice (some ⟨g5, 0, none⟩) (r + 1) c5) (r + 1) (strsV (stepL tops x r)) ∧ Below w.heap.size w ((wr.setCell ⟨w.heap.size + 1, 0, none⟩ (.int .i64 ((k : Int) + 1))).setCell ⟨w.heap.size + 1, 1, none⟩ (.slice (some ⟨g5, 0, none⟩) (r + 1) c5)) := by
      refine ⟨by simpa using (HRR.out.set 0 (.int .i64 ((k : Int) + 1))).set 1 (.slice (some ⟨g5, 0, none⟩) (r + 1) c5), own_other HO.out (fun z hz => ?_), below_set (below_set HB.out (by omega)) (by omega)⟩
      have n1 : z ≠ w.heap.size + 1 := fun e => hne (e ▸ hz)
      rw [Below.heap_setCell _ _ _ _ n1, Below.heap_setCell _ _ _ _ n1]
    have HEND := Lib.hid hend
    have hlen : (addL k tops s).length = r + 1 := by rw [← hadd]; exact stepL_length (by rw [← HN.out]; exact hrn)
    have HLEN := Lib.hid hlen
    clear hend hadd hlen hne hr0
    go_wp2
    refine bodyPost_ret (results_ct rfl rfl HEND.out.1 Tryd.underlying24 rfl (by kernel_rfl) rfl) rfl ⟨.slice (some ⟨g5, 0, none⟩) (r + 1) c5, rfl, ?_, HEND.out.2.2⟩
    have h := HEND.out.2.1
    rw [HADD.out] at h
    rw [HLEN.out]
    exact h
end Go.Proofs.YtfnlehnhcekpkaaDoor

/- The closure that makes a tree's digests. Conditions: at most 2^40 texts, none longer than 2^40 bytes; the table of constants reads as the text lays it. -/
import Derived.Test.YtfnlehnhcekpkaaDoorMkM
import Derived.Maps.Own
import Derived.WalkSpells
import Derived.WalkLawsBesides
import Derived.Outline
import Derived.BigQuiet
import Derived.BigRegion
import Derived.Deep.DeepCutAuto
import Derived.Deep.CutBlock
set_option linter.unusedVariables false
set_option linter.unusedSimpArgs false
namespace Go.Proofs.YtfnlehnhcekpkaaDoor
open Go Go.RowKit Go.BigFrame
set_option maxRecDepth 100000

/-! The root of some texts. -/
def rootF : Nat → List (List UInt8) → List UInt8
  | 0, _ => shaL []
  | f + 1, l => match l with
    | [] => shaL []
    | [s] => leafL s
    | l => nodeL (rootF f (l.take (halfN l.length))) (rootF f (l.drop (halfN l.length)))
def rootL (l : List (List UInt8)) : List UInt8 := rootF l.length l
theorem rootF_fuel : ∀ (f g : Nat) (l : List (List UInt8)), l.length ≤ f → l.length ≤ g → l.length ≤ 1099511627776 → rootF f l = rootF g l := by
  intro f
  induction f with
  | zero =>
    intro g l hf hg _
    obtain rfl : l = [] := List.eq_nil_of_length_eq_zero (by omega)
    cases g <;> rfl
  | succ f ih =>
    intro g l hf hg hl
    cases g with
    | zero =>
      obtain rfl : l = [] := List.eq_nil_of_length_eq_zero (by omega)
      rfl
    | succ g =>
      match l, hf, hg, hl with
      | [], _, _, _ => rfl
      | [s], _, _, _ => rfl
      | a :: b :: l, hf, hg, hl =>
        obtain ⟨h1, h2, h3⟩ := halfN_fits (n := (a :: b :: l).length) (by simp) hl
        show nodeL _ _ = nodeL _ _
        rw [ih g ((a :: b :: l).take (halfN (a :: b :: l).length)) (by rw [List.length_take]; omega) (by rw [List.length_take]; omega) (by rw [List.length_take]; omega),
          ih g ((a :: b :: l).drop (halfN (a :: b :: l).length)) (by rw [List.length_drop]; omega) (by rw [List.length_drop]; omega) (by rw [List.length_drop]; omega)]
theorem rootL_nil : rootL [] = shaL [] := rfl
theorem rootL_one (s : List UInt8) : rootL [s] = leafL s := rfl
theorem rootL_two {l : List (List UInt8)} (h2 : 2 ≤ l.length) (hl : l.length ≤ 1099511627776) : rootL l = nodeL (rootL (l.take (halfN l.length))) (rootL (l.drop (halfN l.length))) := by
  match l, h2, hl with
  | a :: b :: l, h2, hl =>
    obtain ⟨h1, h2, h3⟩ := halfN_fits (n := (a :: b :: l).length) (by simp) hl
    unfold rootL
    conv => lhs; rw [List.length_cons]
    show nodeL _ _ = nodeL _ _
    rw [rootF_fuel (b :: l).length _ ((a :: b :: l).take (halfN (a :: b :: l).length)) (by rw [List.length_take]; simp only [List.length_cons] at *; omega) (Nat.le_refl _) (by rw [List.length_take]; omega),
      rootF_fuel (b :: l).length _ ((a :: b :: l).drop (halfN (a :: b :: l).length)) (by rw [List.length_drop]; simp only [List.length_cons] at *; omega) (Nat.le_refl _) (by rw [List.length_drop]; omega)]
theorem rootF_len : ∀ (f : Nat) (l : List (List UInt8)), (rootF f l).length = 32
  | 0, l => shaL_length _
  | f + 1, [] => shaL_length _
  | f + 1, [s] => leafL_length _
  | f + 1, a :: b :: l => nodeL_length _ _
theorem rootL_len (l : List (List UInt8)) : (rootL l).length = 32 := rootF_len _ _
/-- A part of some texts. -/
def seg (l : List (List UInt8)) (a n : Nat) : List (List UInt8) := (l.drop a).take n
theorem seg_length {l : List (List UInt8)} {a n : Nat} (h : a + n ≤ l.length) : (seg l a n).length = n := by
  unfold seg
  rw [List.length_take, List.length_drop]
  omega
theorem seg_take {l : List (List UInt8)} {a n k : Nat} (h : k ≤ n) : (seg l a n).take k = seg l a k := by
  unfold seg
  rw [List.take_take, Nat.min_eq_left h]
theorem seg_drop {l : List (List UInt8)} {a n k : Nat} : (seg l a n).drop k = seg l (a + k) (n - k) := by
  unfold seg
  rw [List.drop_take, List.drop_drop]
theorem seg_one {l : List (List UInt8)} {a : Nat} (h : a < l.length) : seg l a 1 = [l[a]] := by
  unfold seg
  rw [List.drop_eq_getElem_cons h]
  rfl
theorem seg_all (l : List (List UInt8)) : seg l 0 l.length = l := by
  unfold seg
  rw [List.drop_zero, List.take_length]
/-- The parts that a tree's part has. -/
inductive Under : Nat → Nat → Nat → Nat → Prop
  | self (a n : Nat) : Under a n a n
  | left {a n c d : Nat} (h : 2 ≤ n) (hu : Under a (halfN n) c d) : Under a n c d
  | right {a n c d : Nat} (h : 2 ≤ n) (hu : Under (a + halfN n) (n - halfN n) c d) : Under a n c d
theorem Under.trans {a n c d e f : Nat} (h : Under a n c d) (k : Under c d e f) : Under a n e f := by
  induction h with
  | self a n => exact k
  | left h2 _ ih => exact .left h2 (ih k)
  | right h2 _ ih => exact .right h2 (ih k)
/-- What a map has is right. -/
def GoodM (texts : List (List UInt8)) (L : List (Span × List UInt8)) : Prop := ∀ (a n : Nat) (d : List UInt8), got L ((a : Int), (n : Int)) = some d → d = rootL (seg texts a n)

section
variable {P : Program} {ops : Array Oper} {rest : List Oper} {o : Oper} {a : Act} {Q : Exit → Act → World → Prop}
/-- A store into the map. -/
theorem wpList_update_span (w : World) (hg : o.guard = none) (m x v : Operand) (hop : o.op = .mapUpdate 73 m x v) (b : Nat) (L : List (Span × List UInt8)) (k : Span) (d : List UInt8) (hm : a.eval m = .map (some b)) (hx : a.eval x = spanV k) (hv : a.eval v = .string (bs d)) (h : MapIs w b L)
    (hK : ∀ L' w', MapIs w' b L' → (∀ k', got L' k' = if k' = k then some d else got L k') → KeptG b w w' → Below b w w' → w'.heap.size = w.heap.size → wpList Tryd.prog ops Q rest (a.put o.dst undef) w') : wpList Tryd.prog ops Q (o :: rest) a w := by
  refine wpList_plain hg fun K' hK' => ?_
  obtain ⟨L', ob, hrun, hmi, hgt⟩ := run_update_span k d w b L h
  unfold Oper.wp
  simp [execOp, hop, hm, hx, hv, hrun, Result.andThen]
  refine hK' _ _ (hK L' _ hmi hgt ⟨by simp, fun i hi hne => ?_⟩ ⟨rfl, rfl, rfl, by simp, fun i hi => ?_⟩ (by simp))
  · show (w.heap.setIfInBounds b ob)[i]? = _
    rw [Array.getElem?_setIfInBounds_ne (Ne.symm hne)]
  · show (w.heap.setIfInBounds b ob)[i]? = _
    rw [Array.getElem?_setIfInBounds_ne (by omega)]
end
theorem cell_lt' {w : World} {b o : Nat} {v : Value} (h : w.cell? ⟨b, o, none⟩ = some v) : b < w.heap.size := by
  rcases Nat.lt_or_ge b w.heap.size with h' | h'
  · exact h'
  · unfold World.cell? at h
    simp [Array.getElem?_eq_none h'] at h
theorem cell_map {w : World} {b o : Nat} {v : Value} {L : List (Span × List UInt8)} {g : Nat} (h : w.cell? ⟨g, o, none⟩ = some v) (hm : MapIs w b L) : g ≠ b := by
  intro e
  subst e
  obtain ⟨es, c, hb, _⟩ := hm
  unfold World.cell? at h
  simp [hb] at h
theorem cell_keptG {w w' : World} {b g o : Nat} {v : Value} (hk : KeptG b w w') (h : w.cell? ⟨g, o, none⟩ = some v) (hne : g ≠ b) : w'.cell? ⟨g, o, none⟩ = some v := by
  rw [← h]
  unfold World.cell?
  rw [hk.2 g (cell_lt' h) hne]
/-- What the closure finds in memory. -/
structure OfEnv (texts : List (List UInt8)) (b g bt bo br : Nat) (tp : Option Addr) (cap : Nat) (w : World) : Prop where
  ct : w.cell? ⟨bt, 0, none⟩ = some (.pointer (some ⟨g, 0, none⟩))
  co : w.cell? ⟨bo, 0, none⟩ = some (.func (.func 63) #[] #[.pointer (some ⟨bt, 0, none⟩), .pointer (some ⟨bo, 0, none⟩), .pointer (some ⟨br, 0, none⟩)])
  cr : w.cell? ⟨br, 0, none⟩ = some (.map (some b))
  cg : w.cell? ⟨g, 0, none⟩ = some (.slice tp texts.length cap)
  nt : bt ≠ b
  no : bo ≠ b
  nr : br ≠ b
  ng : g ≠ b
  hs : HasS (fun x => x ≠ b) w tp texts
  k : Ks w
  kb : 2 ≠ b
theorem OfEnv.kept {texts : List (List UInt8)} {b g bt bo br cap : Nat} {tp : Option Addr} {w w' : World} (h : OfEnv texts b g bt bo br tp cap w) (hk : KeptG b w w') : OfEnv texts b g bt bo br tp cap w' where
  ct := cell_keptG hk h.ct h.nt
  co := cell_keptG hk h.co h.no
  cr := cell_keptG hk h.cr h.nr
  cg := cell_keptG hk h.cg h.ng
  nt := h.nt
  no := h.no
  nr := h.nr
  ng := h.ng
  hs := h.hs.ext_to (fun _ h => h) (fun x hx hlt => hk.2 x hlt hx)
  k := by
    obtain ⟨t, fr, hb⟩ := h.k
    exact ⟨t, fr, (hk.2 _ h.k.lt h.kb).trans hb⟩
  kb := h.kb
def OfPost (texts : List (List UInt8)) (b a n : Nat) (L : List (Span × List UInt8)) (w : World) (e' : Ending) (w' : World) : Prop := e' = .returned (.string (bs (rootL (seg texts a n)))) ∧ KeptG b w w' ∧ Below b w w' ∧ ∃ L', MapIs w' b L' ∧ GoodM texts L' ∧ (∀ k, got L k ≠ none → got L' k ≠ none) ∧ ∀ c d, Under a n c d → got L' ((c : Int), (d : Int)) ≠ none
def OfOk (texts : List (List UInt8)) (b g bt bo br : Nat) (tp : Option Addr) (cap n : Nat) : Prop := ∀ (a : Nat) (L : List (Span × List UInt8)) (w : World), a + n ≤ texts.length → OfEnv texts b g bt bo br tp cap w → MapIs w b L → GoodM texts L →
  Calls Tryd.prog 63 #[spanV ((a : Int), (n : Int)), .pointer (some ⟨bt, 0, none⟩), .pointer (some ⟨bo, 0, none⟩), .pointer (some ⟨br, 0, none⟩)] w (OfPost texts b a n L w)
theorem MapIs.keptG {w w' : World} {b x : Nat} {L : List (Span × List UInt8)} (h : MapIs w b L) (hb : Below w.heap.size w w') : MapIs w' b L := by
  obtain ⟨es, c, h1, h2⟩ := h
  exact ⟨es, c, (hb.block b (Array.getElem?_eq_some_iff.1 h1).1).trans h1, h2⟩
theorem MapIs.lt {w : World} {b : Nat} {L : List (Span × List UInt8)} (h : MapIs w b L) : b < w.heap.size := by
  obtain ⟨es, c, h1, _⟩ := h
  exact (Array.getElem?_eq_some_iff.1 h1).1
/-- The end of the closure: what was made is stored. -/
theorem good_put {texts : List (List UInt8)} {L L' : List (Span × List UInt8)} {a n : Nat} (hL : GoodM texts L) (hg : ∀ k', got L' k' = if k' = ((a : Int), (n : Int)) then some (rootL (seg texts a n)) else got L k') : GoodM texts L' := by
  intro c d x hx
  rw [hg] at hx
  split at hx
  · rename_i he
    simp only [Prod.mk.injEq] at he
    obtain rfl : c = a := by omega
    obtain rfl : d = n := by omega
    exact (Option.some.inj hx).symm
  · exact hL c d x hx
set_option maxHeartbeats 8000000 in
theorem of_step (texts : List (List UInt8)) (b g bt bo br : Nat) (tp : Option Addr) (cap n : Nat) (htl : texts.length ≤ 1099511627776) (hts : ∀ s ∈ texts, s.length ≤ 1099511627776) (ih : ∀ m, m < n → OfOk texts b g bt bo br tp cap m) : OfOk texts b g bt bo br tp cap n := by
  intro a L w han henv hmi hgood
  have IH := Lib.hid ih
  have HTS := Lib.hid hts
  have HG := Lib.hid hgood
  clear ih hts hgood
  have hbx : Below w.heap.size w (w.alloc (.cells #[.int .i64 (a : Int), .int .i64 (n : Int)] 78)) := (Below.refl _ _).alloc (Nat.le_refl _) _
  have henv1 := henv.kept (KeptG.of_below hbx)
  have hmi1 := hmi.keptG (x := 0) hbx
  have hbw := hmi.lt
  have hx1 : IsBlk (w.alloc (.cells #[.int .i64 (a : Int), .int .i64 (n : Int)] 78)) w.heap.size #[.int .i64 (a : Int), .int .i64 (n : Int)] 78 := IsBlk.new _ _ _
  have HB1 := Lib.hid hbx
  clear hbx henv hmi
  show Calls Tryd.prog 63 #[.agg #[.int .i64 (a : Int), .int .i64 (n : Int)], .pointer (some ⟨bt, 0, none⟩), .pointer (some ⟨bo, 0, none⟩), .pointer (some ⟨br, 0, none⟩)] w _
  obtain ⟨D, hD⟩ : ∃ D, D = rootL (seg texts a n) := ⟨_, rfl⟩
  have HD := Lib.hid hD
  clear hD
  go_enter Tryd.func63, Tryd.ntmps63
  go_upto_region 2 with (fail)
  generalize hW1 : World.alloc w _ = W1 at henv1 hmi1 hx1 HB1
  clear hW1
  have x1 := hx1.cell (i := 1) rfl
  have HX1 := Lib.hid hx1
  have HE1 := Lib.hid henv1
  have HM1 := Lib.hid hmi1
  clear hx1 henv1 hmi1
  go_upto_block 0 with (fail)
  clear x1
  go_cut [6] (fun s wx => s = .string (bs D) ∧ KeptG b W1 wx ∧ Below b W1 wx ∧ ∃ L', MapIs wx b L' ∧ GoodM texts L' ∧ (∀ k, got L k ≠ none → got L' k ≠ none) ∧ ∀ c d, Under a n c d → (c ≠ a ∨ d ≠ n) → got L' ((c : Int), (d : Int)) ≠ none)
  case first =>
    have hxlt := HX1.out.lt
    by_cases h0 : n = 0
    · have q0 : ((n : Int) == 0) = true := by simp; omega
      have HD2 : Hid (D = shaL []) := Lib.hid (by rw [HD.out, h0]; unfold seg; rw [List.take_zero]; rfl)
      have H0 := Lib.hid h0
      clear h0
      go_wp2_with fail
      go_at_call 23
      refine (sum_l [] _ rfl _ HE1.out.k (by simp)).mono ?_
      rintro e' w2 ⟨he, hb⟩
      rw [← HD2.out] at he
      subst he
      have HB2 := Lib.hid hb
      clear hb
      go_wp2
      go_meet
      refine ⟨rfl, KeptG.of_below HB2.out, HB2.out.mono (by have := HM1.out.lt; omega), L, HM1.out.keptG (x := 0) HB2.out, HG.out, fun _ h => h, fun c d hu hne => ?_⟩
      have h0 := H0.out
      cases hu with
      | self => omega
      | left h2 _ => omega
      | right h2 _ => omega
    · have q0 : ((n : Int) == 0) = false := by simp; omega
      by_cases h1 : n = 1
      · have q1 : ((n : Int) == 1) = true := by simp; omega
        have hat : a < texts.length := by omega
        obtain ⟨gt, ot, htp, _, hgt, hct⟩ := HE1.out.hs a hat
        have hsl := HTS.out _ (List.getElem_mem hat)
        have hseg : D = leafL texts[a] := by rw [HD.out, h1, seg_one hat]; rfl
        generalize texts[a] = s at hct hsl hseg
        have HD2 := Lib.hid hseg
        have H1 := Lib.hid h1
        have hatI : (a : Int) < (texts.length : Int) := by omega
        have ct := HE1.out.ct
        have cg := HE1.out.cg
        have x0 := HX1.out.cell (i := 0) rfl
        have hl1 := cell_lt' ct
        have hl2 := cell_lt' cg
        rw [htp] at cg
        clear hseg hat htp h0 h1
        go_upto_region 8 with (fail)
        refine mixB_start [] (Cls W1) (by kernel_rfl) (Cls.of ((Below.refl _ _).drew)) (fun hCw => ?_)
        refine mixB_flt (by kernel_rfl) [0, 1, 2, 3, 4, 5, 6, 7] 2 _ _ hCw (by kernel_rfl) ?_
        simp only [opsAt, List.map_cons, List.map_nil, List.toList_toArray, List.getD_cons_succ, List.getD_cons_zero]
        unfold Cls
        repeat (go_big_quiet_step (fail))
        refine wpQuiet_nil ?_
        (try rw [← Cls_def])
        refine mixB_ch (i := 8) (fuel := 1) (by kernel_rfl) (by kernel_rfl) ?_
        simp only [opsAt, List.map_cons, List.map_nil, List.toList_toArray, List.getD_cons_succ, List.getD_cons_zero]
        go_wp2_with (go_at_call 30; refine (leaf_any s _ (HE1.out.k.ext hCw.below) hsl).mono ?_; rintro e' w5 ⟨he, hb⟩; rw [← HD2.out] at he; subst he)
        refine ThenB.mk (hCw.trans hb) (fun hCw => ?_)
        refine mixB_flt (by kernel_rfl) [9] 0 _ _ hCw (by kernel_rfl) ?_
        simp only [opsAt, List.map_cons, List.map_nil, List.toList_toArray, List.getD_cons_succ, List.getD_cons_zero]
        unfold Cls
        repeat (go_big_quiet_step (fail))
        refine wpQuiet_nil ?_
        (try rw [← Cls_def])
        refine mixB_end [] (by kernel_rfl) ?_
        refine wpList_nil ?_
        refine Calm.normal ?_
        have HB2 := Lib.hid hCw.below
        clear hb ct cg x0
        go_wp2
        go_meet
        refine ⟨rfl, KeptG.of_below HB2.out, HB2.out.mono (by have := HM1.out.lt; omega), L, HM1.out.keptG (x := 0) HB2.out, HG.out, fun _ h => h, fun c d hu hne => ?_⟩
        have h1 := H1.out
        cases hu with
        | self => omega
        | left h2 _ => omega
        | right h2 _ => omega
      · have q1 : ((n : Int) == 1) = false := by simp; omega
        have h2 : 2 ≤ n := by omega
        have hn40 : n ≤ 1099511627776 := by omega
        obtain ⟨ha, hb, hc⟩ := halfN_fits h2 hn40
        obtain ⟨k, hk⟩ : ∃ k, k = halfN n := ⟨_, rfl⟩
        have HK := Lib.hid hk
        rw [← hk] at ha hb hc
        have hsl := seg_length (l := texts) (a := a) (n := n) han
        have hroot : D = nodeL (rootL (seg texts a k)) (rootL (seg texts (a + k) (n - k))) := by
          rw [HD.out, rootL_two (by rw [hsl]; exact h2) (by rw [hsl]; exact hn40), hsl, ← hk, seg_take (by omega), seg_drop]
        have HD2 := Lib.hid hroot
        clear hk hsl hroot h0 h1
        have x1 := HX1.out.cell (i := 1) rfl
        have hi1 : (a : Int) + (k : Int) ≤ 1099511627776 := by omega
        have hi2 : (k : Int) ≤ (n : Int) := by omega
        have hi3 : (n : Int) ≤ 1099511627776 := by omega
        go_wp2_with fail
        go_at_call 41
        refine (half_any n h2 hn40 _).mono ?_
        rintro e' w2 ⟨he, rfl⟩
        rw [← HK.out] at he
        subst he
        have co := HE1.out.co
        have x0 := HX1.out.cell (i := 0) rfl
        have hog1 : Og b W1 bo := ⟨cell_lt' co, HE1.out.no⟩
        have hog2 : Og b W1 w.heap.size := ⟨hxlt, by omega⟩
        go_upto_region 4 with (fail)
        refine mixB_start [] (ClsG b W1) (by kernel_rfl) (ClsG.drew b W1) (fun hCw => ?_)
        refine mixB_flt (by kernel_rfl) [0, 1, 2, 3, 4, 6, 7, 8, 9, 10, 11, 12, 13, 14, 15] 4 _ _ hCw (by kernel_rfl) ?_
        simp only [opsAt, List.map_cons, List.map_nil, List.toList_toArray, List.getD_cons_succ, List.getD_cons_zero]
        unfold ClsG
        repeat (go_big_quiet_step (fail))
        refine wpQuiet_nil ?_
        (try rw [← ClsG_def])
        refine mixB_ch (i := 5) (fuel := 3) (by kernel_rfl) (by kernel_rfl) ?_
        simp only [opsAt, List.map_cons, List.map_nil, List.toList_toArray, List.getD_cons_succ, List.getD_cons_zero]
        go_wp2_with (go_at_call 63; refine (IH.out k (by omega) a L _ (by omega) (HE1.out.kept hCw.kept) (by have := HM1.out; exact this) HG.out).mono ?_; rintro e' w5 ⟨rfl, hk5, hb5, L5, hm5, hg5, hmo5, hu5⟩)
        refine ThenB.mk (hCw.trans hk5) (fun hCw => ?_)
        refine mixB_ch (i := 16) (fuel := 2) (by kernel_rfl) (by kernel_rfl) ?_
        simp only [opsAt, List.map_cons, List.map_nil, List.toList_toArray, List.getD_cons_succ, List.getD_cons_zero]
        go_wp2_with (go_at_call 63; have h16 := IH.out (n - k) (by omega) (a + k) L5 w5 (by omega) (HE1.out.kept hCw.kept) hm5 hg5; rw [show ((a + k : Nat) : Int) = (a : Int) + (k : Int) by omega, show ((n - k : Nat) : Int) = (n : Int) - (k : Int) by omega] at h16; refine h16.mono ?_; clear h16; rintro e' w16 ⟨rfl, hk16, hb16, L16, hm16, hg16, hmo16, hu16⟩)
        refine ThenB.mk (hCw.trans hk16) (fun hCw => ?_)
        refine mixB_ch (i := 17) (fuel := 1) (by kernel_rfl) (by kernel_rfl) ?_
        simp only [opsAt, List.map_cons, List.map_nil, List.toList_toArray, List.getD_cons_succ, List.getD_cons_zero]
        go_wp2_with (go_at_call 33; refine (node_any _ _ _ (HE1.out.kept hCw.kept).k (by rw [rootL_len]; omega) (by rw [rootL_len]; omega)).mono ?_; rintro e' w17 ⟨he, hb⟩; rw [← HD2.out] at he; subst he)
        refine ThenB.mk (hCw.trans (KeptG.of_below hb)) (fun hCw => ?_)
        refine mixB_flt (by kernel_rfl) [18] 0 _ _ hCw (by kernel_rfl) ?_
        simp only [opsAt, List.map_cons, List.map_nil, List.toList_toArray, List.getD_cons_succ, List.getD_cons_zero]
        unfold ClsG
        repeat (go_big_quiet_step (fail))
        refine wpQuiet_nil ?_
        (try rw [← ClsG_def])
        refine mixB_end [] (by kernel_rfl) ?_
        refine wpList_nil ?_
        refine Calm.normal ?_
        have hs5 := hb5.size
        have hs16 := hb16.size
        have hlt1 := HM1.out.lt
        have HKW := Lib.hid hCw.kept
        have HBW : Hid (Below b W1 w17) := Lib.hid ((((Below.refl b W1).drew.trans hb5).trans hb16).trans (hb.mono (by have := hm16.lt; omega)))
        have HM17 := Lib.hid (hm16.keptG (x := 0) hb)
        have HG17 := Lib.hid hg16
        have HMO : Hid (∀ k, got L k ≠ none → got L16 k ≠ none) := Lib.hid (fun k h => hmo16 k (hmo5 k h))
        have HU5 := Lib.hid (fun c d (h : Under a k c d) => hmo16 _ (hu5 c d h))
        have HU16 := Lib.hid hu16
        clear hb hb5 hb16 hk5 hk16 hm5 hm16 hg5 hg16 hmo5 hmo16 hu5 hu16 hs5 hs16 co x0 x1 hog1 hog2
        go_wp2
        go_meet
        refine ⟨rfl, HKW.out, HBW.out, L16, HM17.out, HG17.out, HMO.out, fun c d hu hne => ?_⟩
        cases hu with
        | self => omega
        | left _ hu => exact HU5.out c d (by rw [HK.out]; exact hu)
        | right _ hu => exact HU16.out c d (by rw [HK.out]; exact hu)
  case rest =>
    obtain ⟨rfl, hkw, hbw1, L', hm', hg', hmo', hu'⟩ := hcut
    have hx := (hkw.2 w.heap.size HX1.out.lt (by omega)).trans (show W1.heap[w.heap.size]? = _ from HX1.out)
    have hx2 : IsBlk _ w.heap.size #[.int .i64 (a : Int), .int .i64 (n : Int)] 78 := hx
    have x0 := hx2.cell (i := 0) rfl
    have x1 := hx2.cell (i := 1) rfl
    have cr := (HE1.out.kept hkw).cr
    have HKW := Lib.hid hkw
    have HBW1 := Lib.hid hbw1
    have HM' := Lib.hid hm'
    have HG' := Lib.hid hg'
    have HMO := Lib.hid hmo'
    have HU := Lib.hid hu'
    clear hkw hbw1 hm' hg' hmo' hu' hx hx2
    go_wp2_with (at_mapUpdate; refine wpList_update_span _ rfl _ _ _ rfl b L' ((a : Int), (n : Int)) D rfl rfl rfl HM'.out ?_)
    intro L2 w2 hm2 hgt0 hk2 hb2 hs2
    have hgt : ∀ k', got L2 k' = if k' = ((a : Int), (n : Int)) then some D else got L' k' := fun k' => by
      obtain ⟨x, y⟩ := k'
      simpa only [Prod.mk.injEq] using hgt0 x y
    clear hgt0
    have hlast : OfPost texts b a n L w (.returned (.string (bs D))) w2 := by
      refine ⟨by rw [HD.out], ?_, ?_, L2, hm2, good_put HG'.out (by rw [← HD.out]; exact hgt), fun k h => ?_, fun c d hu => ?_⟩
      · exact ((KeptG.of_below HB1.out).trans HKW.out).trans hk2
      · exact ((HB1.out.mono (by omega)).trans HBW1.out).trans hb2
      · rw [hgt]
        split
        · simp
        · exact HMO.out k h
      · rw [hgt]
        split
        · simp
        · rename_i hne
          refine HU.out c d hu ?_
          by_cases hca : c = a
          · right
            intro hdn
            exact hne (by rw [hca, hdn])
          · exact Or.inl hca
    have HLAST := Lib.hid hlast
    clear hlast hm2 hgt hk2 hb2 hs2 x0 x1 cr
    go_wp2
    go_ret
    exact HLAST.out
theorem of_all (texts : List (List UInt8)) (b g bt bo br : Nat) (tp : Option Addr) (cap : Nat) (htl : texts.length ≤ 1099511627776) (hts : ∀ s ∈ texts, s.length ≤ 1099511627776) : ∀ m n, n < m → OfOk texts b g bt bo br tp cap n := by
  intro m
  induction m with
  | zero => intro n h; omega
  | succ m ih => intro n h; exact of_step texts b g bt bo br tp cap n htl hts (fun j hj => ih j (by omega))
end Go.Proofs.YtfnlehnhcekpkaaDoor

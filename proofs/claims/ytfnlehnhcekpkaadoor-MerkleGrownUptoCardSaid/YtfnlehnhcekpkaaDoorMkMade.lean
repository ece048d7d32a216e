/- A tree's Root where its digests are made: nothing that was there is turned. Rows of the call's own, opened with their capacity. Conditions: the table of constants reads as the text lays it. -/
import Derived.Test.YtfnlehnhcekpkaaDoorMkTot
set_option linter.unusedVariables false
set_option linter.unusedSimpArgs false
namespace Go.Proofs.YtfnlehnhcekpkaaDoor
open Go Go.RowKit Go.BigFrame
set_option maxRecDepth 100000

theorem hasS_ownN {R : Nat} {w : World} {v : Value} {l : List (List UInt8)} (h : w.ownsRow R 9 1 v l.length (strsV l)) : ∃ p c, v = .slice p l.length c ∧ l.length ≤ c ∧ (p = none → c = 0) ∧ HasS (fun x => R ≤ x) w p l := by
  rcases h.2 with ⟨rfl, h0⟩ | ⟨g, cap, cur, rfl, hb, hh, hnc, hcm, hcs, hx⟩
  · exact ⟨none, 0, by rw [h0], by omega, fun _ => rfl, fun j hj => by omega⟩
  · refine ⟨_, cap, rfl, hnc, (fun h => by cases h), fun j hj => ⟨g, 0, rfl, hb, (show IsBlk w g cur 9 from hh).lt, ?_⟩⟩
    rw [Nat.zero_add]
    have h1 : (strsV l)[j]? = some (.string (bs l[j])) := by unfold strsV; rw [List.getElem?_map, List.getElem?_eq_getElem hj]; rfl
    rw [← hx, List.getElem?_take_of_lt (by omega)] at h1
    exact (show IsBlk w g cur 9 from hh).cell (by simpa using h1)
/-- A tree whose digests are made. -/
def TreeM (S : Nat → Prop) (texts : List (List UInt8)) (g : Nat) (tp : Option Addr) (cap : Nat) (w : World) : Prop := ∃ b L, MadeT S texts g tp cap w b L
theorem TreeM.tree {S : Nat → Prop} {texts : List (List UInt8)} {g cap : Nat} {tp : Option Addr} {w : World} (h : TreeM S texts g tp cap w) : TreeIn S texts g tp cap w := .inl h
theorem TreeM.ext_to {S S' : Nat → Prop} {texts : List (List UInt8)} {g cap : Nat} {tp : Option Addr} {w w' : World} (h : TreeM S texts g tp cap w) (hS : ∀ x, S x → x < w.heap.size → S' x) (hw : ∀ x, S x → x < w.heap.size → w'.heap[x]? = w.heap[x]?) : TreeM S' texts g tp cap w' := by
  obtain ⟨b, L, h⟩ := h
  exact ⟨b, L, h.ext_to hS hw⟩
theorem TreeM.ext {S : Nat → Prop} {texts : List (List UInt8)} {g cap : Nat} {tp : Option Addr} {w w' : World} (h : TreeM S texts g tp cap w) (hb : Below w.heap.size w w') : TreeM S texts g tp cap w' := h.ext_to (fun _ h _ => h) (fun x _ hx => hb.block x hx)
set_option maxHeartbeats 4000000 in
theorem do_made (S : Nat → Prop) (texts : List (List UInt8)) (g bt : Nat) (tp : Option Addr) (cap : Nat) (w : World) (h : TreeM S texts g tp cap w) :
    Calls Tryd.prog 61 #[.pointer (some ⟨g, 1, none⟩), .func (.func 62) #[] #[.pointer (some ⟨bt, 0, none⟩)]] w fun e' w' => e' = .returned (.tuple #[]) ∧ w' = w := by
  obtain ⟨b, L, h⟩ := h
  obtain ⟨x3, hc⟩ := h.2.2.2.1
  have c1 := hc.cell (i := 1) rfl
  clear h hc
  go_enter Tryd.func61, Tryd.ntmps61
  go_wp2_with fail
  go_at_call 74
  refine (bload_any _ 1 _ c1).mono ?_
  rintro e w1 ⟨rfl, rfl⟩
  rw [show ((1 : Int) != 0) = true from rfl]
  go_wp2
  go_end0
  exact ⟨rfl, rfl⟩
set_option maxHeartbeats 4000000 in
theorem made_made (S : Nat → Prop) (texts : List (List UInt8)) (g : Nat) (tp : Option Addr) (cap : Nat) (w : World) (h : TreeM S texts g tp cap w) :
    Calls Tryd.prog 40 #[.pointer (some ⟨g, 0, none⟩)] w fun e' w' => ∃ b L, e' = .returned (.map (some b)) ∧ MadeT S texts g tp cap w' b L ∧ Below w.heap.size w w' := by
  have hmf : ∀ (fn : Fn) (first cap : Array Value) (w : World), (Instr.makeFunc fn first cap).run Tryd.prog w = .ok (.func fn first cap) w := fun _ _ _ _ => rfl
  have hb1 : Below w.heap.size w (w.alloc (.cells #[.pointer (some ⟨g, 0, none⟩)] 33)) := (Below.refl _ _).alloc (Nat.le_refl _) _
  have hc1 : IsBlk (w.alloc (.cells #[.pointer (some ⟨g, 0, none⟩)] 33)) w.heap.size #[.pointer (some ⟨g, 0, none⟩)] 33 := IsBlk.new _ _ _
  have HD := Lib.hid (do_made S texts g w.heap.size tp cap _ (h.ext hb1))
  obtain ⟨b, L, hm⟩ := h.ext hb1
  obtain ⟨x3, hg⟩ := hm.2.2.2.1
  have g4 := hg.cell (i := 4) rfl
  have c0 := hc1.cell (i := 0) rfl
  have HM := Lib.hid hm
  have HB := Lib.hid hb1
  clear hb1 hc1 h hm hg
  go_enter Tryd.func40, Tryd.ntmps40
  go_wp2_with fail
  go_at_call 61
  refine HD.out.mono ?_
  rintro e w1 ⟨rfl, rfl⟩
  go_wp2
  go_ret
  exact ⟨b, L, rfl, HM.out, HB.out⟩
set_option maxHeartbeats 4000000 in
theorem root_made (S : Nat → Prop) (texts : List (List UInt8)) (g : Nat) (tp : Option Addr) (cap : Nat) (w : World) (h : TreeM S texts g tp cap w) :
    Calls Tryd.prog 18 #[.pointer (some ⟨g, 0, none⟩)] w fun e' w' => e' = .returned (.string (bs (rootL texts))) ∧ Below w.heap.size w w' := by
  obtain ⟨_, _, _, _, hblk⟩ := h.tree.block
  have c0 := hblk.cell (i := 0) rfl
  have hgl := hblk.lt
  have hd : Below w.heap.size w w.drew := (Below.refl _ _).drew
  have HM := Lib.hid (made_made S texts g tp cap w.drew (h.ext hd))
  have HR : Hid (∀ L, GoodM texts L → (∀ c d, Under 0 texts.length c d → got L ((c : Int), (d : Int)) ≠ none) → (got L (0, (texts.length : Int))).getD [] = rootL texts) := Lib.hid (fun L h1 h2 => by
    have h3 := h2 0 texts.length (.self _ _)
    rw [show ((0 : Nat) : Int) = 0 from rfl] at h3
    cases hq : got L (0, (texts.length : Int)) with
    | none => exact absurd hq h3
    | some d =>
      have h4 := h1 0 texts.length d (by rw [show ((0 : Nat) : Int) = 0 from rfl]; exact hq)
      rw [seg_all] at h4
      exact h4)
  clear h hblk hd
  go_enter Tryd.func18, Tryd.ntmps18
  go_upto_region 3 with (fail)
  refine mixB_start [8, 9] (Cls w) (by kernel_rfl) (Cls.of ((Below.refl _ _).drew)) (fun hCw => ?_)
  refine mixB_flt (by kernel_rfl) [0, 2, 3, 4, 5, 6, 7] 3 _ _ hCw (by kernel_rfl) ?_
  simp only [opsAt, List.map_cons, List.map_nil, List.toList_toArray, List.getD_cons_succ, List.getD_cons_zero]
  unfold Cls
  repeat (go_big_quiet_step (fail))
  refine wpQuiet_nil ?_
  (try rw [← Cls_def])
  refine mixB_ch (i := 1) (fuel := 2) (by kernel_rfl) (by kernel_rfl) ?_
  simp only [opsAt, List.map_cons, List.map_nil, List.toList_toArray, List.getD_cons_succ, List.getD_cons_zero]
  go_wp2_with (go_at_call 40; refine HM.out.mono ?_; rintro e w1 ⟨b, L, rfl, hm, hb⟩)
  refine ThenB.mk (hCw.trans hb) (fun hCw => ?_)
  refine mixB_end [8, 9] (by kernel_rfl) ?_
  simp only [opsAt, List.map_cons, List.map_nil, List.toList_toArray, List.getD_cons_succ, List.getD_cons_zero]
  have hlk : (Instr.lookup 73 (.map (some b)) (.agg #[.int .i64 0, .int .i64 (texts.length : Int)]) false).run Tryd.prog w1 = .ok (.string (bs (rootL texts))) w1 := by
    have := run_lookup_span (0, (texts.length : Int)) w1 b L hm.2.2.2.2.1
    rw [HR.out L hm.2.2.2.2.2.1 hm.2.2.2.2.2.2] at this
    exact this
  have HF : Hid (Below w.heap.size w w1) := Lib.hid (((Below.refl _ w).drew).trans hb)
  clear hb hm hCw
  go_wp2
  refine Calm.normal ?_
  go_wp2
  go_ret
  exact ⟨rfl, HF.out⟩
end Go.Proofs.YtfnlehnhcekpkaaDoor

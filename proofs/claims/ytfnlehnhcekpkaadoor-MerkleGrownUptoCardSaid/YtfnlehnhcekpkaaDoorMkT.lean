/- merkle: trees in memory; Tree.made, New, Size, Root. Conditions: the texts are no longer than 2^40 bytes, at most 2^40; the table of constants reads as the text lays it. -/
import Derived.Test.YtfnlehnhcekpkaaDoorMkW
set_option linter.unusedVariables false
set_option linter.unusedSimpArgs false
namespace Go.Proofs.YtfnlehnhcekpkaaDoor
open Go Go.RowKit Go.BigFrame
set_option maxRecDepth 100000

/-- A tree's memory when its digests are made: its blocks satisfy S. -/
def MadeT (S : Nat → Prop) (texts : List (List UInt8)) (g : Nat) (tp : Option Addr) (cap : Nat) (w : World) (b : Nat) (L : List (Span × List UInt8)) : Prop :=
  S g ∧ HasS (fun x => S x ∧ x ≠ g) w tp texts ∧ S b ∧ (∃ x3, IsBlk w g #[.slice tp texts.length cap, .int .u32 1, .int .i32 0, x3, .map (some b)] 75) ∧ MapIs w b L ∧ GoodM texts L ∧ ∀ c d, Under 0 texts.length c d → got L ((c : Int), (d : Int)) ≠ none
/-- A tree's memory, made or not. -/
def TreeIn (S : Nat → Prop) (texts : List (List UInt8)) (g : Nat) (tp : Option Addr) (cap : Nat) (w : World) : Prop :=
  (∃ b L, MadeT S texts g tp cap w b L) ∨ (S g ∧ HasS (fun x => S x ∧ x ≠ g) w tp texts ∧ ∃ x3, FreshAt texts g tp cap x3 w)
theorem MapIs.of_block {w w' : World} {b : Nat} {L : List (Span × List UInt8)} (h : MapIs w b L) (hb : w'.heap[b]? = w.heap[b]?) : MapIs w' b L := by
  obtain ⟨es, c, h1, h2⟩ := h
  exact ⟨es, c, hb.trans h1, h2⟩
theorem MadeT.ext_to {S S' : Nat → Prop} {texts : List (List UInt8)} {g b cap : Nat} {tp : Option Addr} {w w' : World} {L : List (Span × List UInt8)} (h : MadeT S texts g tp cap w b L) (hS : ∀ x, S x → x < w.heap.size → S' x) (hw : ∀ x, S x → x < w.heap.size → w'.heap[x]? = w.heap[x]?) : MadeT S' texts g tp cap w' b L := by
  obtain ⟨h1, h2, h3, ⟨x3, h4⟩, h5, h6, h7⟩ := h
  have hg := h4.lt
  have hb := h5.lt
  refine ⟨hS _ h1 hg, ?_, hS _ h3 hb, ⟨x3, (hw _ h1 hg).trans h4⟩, h5.of_block (hw _ h3 hb), h6, h7⟩
  have h2' : HasS (fun x => (S x ∧ x ≠ g) ∧ x < w.heap.size) w tp texts := fun i hi => by
    obtain ⟨gg, o, q1, q2, q3, q4⟩ := h2 i hi
    exact ⟨gg, o, q1, ⟨q2, q3⟩, q3, q4⟩
  exact h2'.ext_to (fun x hx => ⟨hS _ hx.1.1 hx.2, hx.1.2⟩) (fun x hx hlt => hw _ hx.1.1 hlt)
theorem TreeIn.ext_to {S S' : Nat → Prop} {texts : List (List UInt8)} {g cap : Nat} {tp : Option Addr} {w w' : World} (h : TreeIn S texts g tp cap w) (hS : ∀ x, S x → x < w.heap.size → S' x) (hw : ∀ x, S x → x < w.heap.size → w'.heap[x]? = w.heap[x]?) : TreeIn S' texts g tp cap w' := by
  rcases h with ⟨b, L, h⟩ | ⟨h1, h2, x3, h3⟩
  · exact .inl ⟨b, L, h.ext_to hS hw⟩
  · have hg : g < w.heap.size := IsBlk.lt h3
    refine .inr ⟨hS _ h1 hg, ?_, x3, (hw _ h1 hg).trans h3⟩
    have h2' : HasS (fun x => (S x ∧ x ≠ g) ∧ x < w.heap.size) w tp texts := fun i hi => by
      obtain ⟨gg, o, q1, q2, q3, q4⟩ := h2 i hi
      exact ⟨gg, o, q1, ⟨q2, q3⟩, q3, q4⟩
    exact h2'.ext_to (fun x hx => ⟨hS _ hx.1.1 hx.2, hx.1.2⟩) (fun x hx hlt => hw _ hx.1.1 hlt)
theorem TreeIn.ext {S : Nat → Prop} {texts : List (List UInt8)} {g cap : Nat} {tp : Option Addr} {w w' : World} (h : TreeIn S texts g tp cap w) (hb : Below w.heap.size w w') : TreeIn S texts g tp cap w' := h.ext_to (fun _ h _ => h) (fun x _ hx => hb.block x hx)
theorem TreeIn.block {S : Nat → Prop} {texts : List (List UInt8)} {g cap : Nat} {tp : Option Addr} {w : World} (h : TreeIn S texts g tp cap w) : ∃ d s x3 m, IsBlk w g #[.slice tp texts.length cap, .int .u32 d, .int .i32 s, x3, .map m] 75 := by
  rcases h with ⟨b, L, _, _, _, ⟨x3, h4⟩, _⟩ | ⟨_, _, x3, h3⟩
  · exact ⟨_, _, x3, _, h4⟩
  · exact ⟨_, _, x3, _, h3⟩
theorem TreeIn.texts {S : Nat → Prop} {texts : List (List UInt8)} {g cap : Nat} {tp : Option Addr} {w : World} (h : TreeIn S texts g tp cap w) : HasS (fun x => S x ∧ x ≠ g) w tp texts := by
  rcases h with ⟨b, L, _, h2, _⟩ | ⟨_, h2, _⟩
  · exact h2
  · exact h2
/-- What asks for the digests leaves behind. -/
def MadePost (S : Nat → Prop) (texts : List (List UInt8)) (g : Nat) (tp : Option Addr) (cap : Nat) (w w' : World) (b : Nat) : Prop := KeptG g w w' ∧ Below g w w' ∧ ∃ L, MadeT S texts g tp cap w' b L
theorem KeptG.grow {g : Nat} {w w1 w' : World} (h1 : Below w.heap.size w w1) (h : KeptG g w1 w') : KeptG g w w' := (KeptG.of_below h1).trans h
set_option maxHeartbeats 4000000 in
theorem do_any (S : Nat → Prop) (texts : List (List UInt8)) (g bt : Nat) (tp : Option Addr) (cap : Nat) (w : World) (hK : Ks w) (hkg : 2 ≠ g) (htl : texts.length ≤ 1099511627776) (hts : ∀ s ∈ texts, s.length ≤ 1099511627776)
    (ht : w.cell? ⟨bt, 0, none⟩ = some (.pointer (some ⟨g, 0, none⟩))) (hbt : bt ≠ g) (h : TreeIn S texts g tp cap w) (hS : ∀ x, w.heap.size ≤ x → S x) :
    Calls Tryd.prog 61 #[.pointer (some ⟨g, 1, none⟩), .func (.func 62) #[] #[.pointer (some ⟨bt, 0, none⟩)]] w fun e' w' => e' = .returned (.tuple #[]) ∧ ∃ b, MadePost S texts g tp cap w w' b := by
  rcases h with ⟨b, L, h⟩ | ⟨h1, h2, x3, h3⟩
  · have hc := h.2.2.2.1
    obtain ⟨x3, hc⟩ := hc
    have c1 := hc.cell (i := 1) rfl
    have H := Lib.hid h
    clear h hc ht
    go_enter Tryd.func61, Tryd.ntmps61
    go_wp2_with fail
    go_at_call 74
    refine (bload_any _ 1 _ c1).mono ?_
    rintro e w1 ⟨rfl, rfl⟩
    rw [show ((1 : Int) != 0) = true from rfl]
    go_wp2
    go_end0
    exact ⟨rfl, b, KeptG.refl _ _, Below.refl _ _, L, H.out⟩
  · have hc : IsBlk w g #[.slice tp texts.length cap, .int .u32 0, .int .i32 0, x3, .map none] 75 := h3
    have c1 := hc.cell (i := 1) rfl
    have HS := Lib.hid (slow_any texts g bt tp cap x3 w hK hkg htl hts ht hbt h3 (h2.ext_to (fun x hx => hx.2) (fun _ _ _ => rfl)))
    have H1 := Lib.hid h1
    have H2 := Lib.hid h2
    have H3 := Lib.hid hS
    clear ht h1 h2 h3 hc hS
    go_enter Tryd.func61, Tryd.ntmps61
    go_wp2_with fail
    go_at_call 74
    refine (bload_any _ 0 _ c1).mono ?_
    rintro e w1 ⟨rfl, rfl⟩
    rw [show ((0 : Int) != 0) = false from rfl]
    clear c1
    go_wp2_with fail
    go_at_call 75
    refine HS.out.mono ?_
    rintro e w1 ⟨rfl, hk, hb, b, hlb, L, hm1, hm2, hm3, hm4⟩
    have HF : Hid (∃ b, MadePost S texts g tp cap w w1 b) := Lib.hid ⟨b, hk, hb, L, H1.out, H2.out.ext_to (fun _ h => h) (fun x hx hlt => hk.2 x hlt hx.2), H3.out b hlb, ⟨x3, hm1⟩, hm2, hm3, hm4⟩
    clear hk hb hm1 hm2 hm3 hm4
    go_wp2
    go_end0
    exact ⟨rfl, HF.out⟩
set_option maxHeartbeats 4000000 in
theorem made_any (S : Nat → Prop) (texts : List (List UInt8)) (g : Nat) (tp : Option Addr) (cap : Nat) (w : World) (hK : Ks w) (hkg : 2 ≠ g) (htl : texts.length ≤ 1099511627776) (hts : ∀ s ∈ texts, s.length ≤ 1099511627776)
    (h : TreeIn S texts g tp cap w) (hS : ∀ x, w.heap.size ≤ x → S x) :
    Calls Tryd.prog 40 #[.pointer (some ⟨g, 0, none⟩)] w fun e' w' => ∃ b, e' = .returned (.map (some b)) ∧ MadePost S texts g tp cap w w' b := by
  have hmf : ∀ (fn : Fn) (first cap : Array Value) (w : World), (Instr.makeFunc fn first cap).run Tryd.prog w = .ok (.func fn first cap) w := fun _ _ _ _ => rfl
  obtain ⟨_, _, _, _, hblk⟩ := h.block
  have hgl := hblk.lt
  clear hblk
  have hb1 : Below w.heap.size w (w.alloc (.cells #[.pointer (some ⟨g, 0, none⟩)] 33)) := (Below.refl _ _).alloc (Nat.le_refl _) _
  have hc1 : IsBlk (w.alloc (.cells #[.pointer (some ⟨g, 0, none⟩)] 33)) w.heap.size #[.pointer (some ⟨g, 0, none⟩)] 33 := IsBlk.new _ _ _
  have HD := Lib.hid (do_any S texts g w.heap.size tp cap _ (hK.ext hb1) hkg htl hts (hc1.cell rfl) (by omega) (h.ext hb1) (fun x hx => hS x (by have := hb1.size; omega)))
  have HC := Lib.hid hc1
  have HB := Lib.hid hb1
  clear hb1 hc1 hK h hS
  go_enter Tryd.func40, Tryd.ntmps40
  go_wp2_with fail
  go_at_call 61
  refine HD.out.mono ?_
  rintro e w1 ⟨rfl, b, hk, hb, L, hm⟩
  have hc2 := (hk.2 w.heap.size HC.out.lt (by omega)).trans (show (w.alloc _).heap[w.heap.size]? = _ from HC.out)
  have hc3 : IsBlk w1 w.heap.size #[.pointer (some ⟨g, 0, none⟩)] 33 := hc2
  have c0 := hc3.cell (i := 0) rfl
  obtain ⟨x3, hg⟩ := hm.2.2.2.1
  have g4 := hg.cell (i := 4) rfl
  have HF : Hid (MadePost S texts g tp cap w w1 b) := Lib.hid ⟨hk.grow HB.out, (HB.out.mono (by omega)).trans hb, L, hm⟩
  clear hk hb hm hc2 hc3 hg
  go_wp2
  go_ret
  exact ⟨b, rfl, HF.out⟩
/-! A class: one block is written to, but not its first cell. -/
def KeptH (g : Nat) (v : Value) (w w' : World) : Prop := KeptG g w w' ∧ w'.cell? ⟨g, 0, none⟩ = some v
open Classical in
noncomputable def extH (g : Nat) (v : Value) (w x : World) : World := if KeptH g v w x then x else w
theorem extH_of {g : Nat} {v : Value} {w x : World} (h : KeptH g v w x) : x = extH g v w x := by
  unfold extH
  rw [if_pos h]
theorem extH_kept (g : Nat) (v : Value) (w x : World) : KeptG g w (extH g v w x) := by
  unfold extH
  split
  · rename_i h; exact h.1
  · exact KeptG.refl _ _
def ClsH (g : Nat) (v : Value) (w : World) : World → Prop := fun w' => ∃ x, w' = extH g v w x
theorem ClsH_def (g : Nat) (v : Value) (w : World) : ClsH g v w = fun w' => ∃ x, w' = extH g v w x := rfl
theorem ClsH.of {g : Nat} {v : Value} {w x : World} (h : KeptH g v w x) : ClsH g v w x := ⟨x, extH_of h⟩
theorem ClsH.kept {g : Nat} {v : Value} {w x : World} (h : ClsH g v w x) : KeptG g w x := by
  obtain ⟨y, rfl⟩ := h
  exact extH_kept g v w y
@[go_sem] theorem extH_cell0 (g : Nat) (v : Value) (w x : World) (h : w.cell? ⟨g, 0, none⟩ = some v) : (extH g v w x).cell? ⟨g, 0, none⟩ = some v := by
  unfold extH
  split
  · rename_i h; exact h.2
  · exact h
set_option maxHeartbeats 4000000 in
theorem root_any (S : Nat → Prop) (texts : List (List UInt8)) (g : Nat) (tp : Option Addr) (cap : Nat) (w : World) (hK : Ks w) (hkg : 2 ≠ g) (htl : texts.length ≤ 1099511627776) (hts : ∀ s ∈ texts, s.length ≤ 1099511627776)
    (h : TreeIn S texts g tp cap w) (hS : ∀ x, w.heap.size ≤ x → S x) :
    Calls Tryd.prog 18 #[.pointer (some ⟨g, 0, none⟩)] w fun e' w' => e' = .returned (.string (bs (rootL texts))) ∧ ∃ b, MadePost S texts g tp cap w w' b := by
  obtain ⟨_, _, _, _, hblk⟩ := h.block
  have c0 := hblk.cell (i := 0) rfl
  have hgl := hblk.lt
  have hd : Below w.heap.size w w.drew := (Below.refl _ _).drew
  have HM := Lib.hid (made_any S texts g tp cap w.drew (hK.ext hd) hkg htl hts (h.ext hd) hS)
  have HR : Hid (∀ L, GoodM texts L → (∀ c d, Under 0 texts.length c d → got L ((c : Int), (d : Int)) ≠ none) → (got L (0, (texts.length : Int))).getD [] = rootL texts) := Lib.hid (fun L h1 h2 => by
    have h3 := h2 0 texts.length (.self _ _)
    rw [show ((0 : Nat) : Int) = 0 from rfl] at h3
    cases hq : got L (0, (texts.length : Int)) with
    | none => exact absurd hq h3
    | some d =>
      have h4 := h1 0 texts.length d (by rw [show ((0 : Nat) : Int) = 0 from rfl]; exact hq)
      rw [seg_all] at h4
      exact h4)
  clear hK h hS hblk hd
  go_enter Tryd.func18, Tryd.ntmps18
  go_upto_region 3 with (fail)
  refine mixB_start [8, 9] (ClsH g (.slice tp texts.length cap) w) (by kernel_rfl) (ClsH.of ⟨⟨Nat.le_refl _, fun _ _ _ => rfl⟩, c0⟩) (fun hCw => ?_)
  refine mixB_flt (by kernel_rfl) [0, 2, 3, 4, 5, 6, 7] 3 _ _ hCw (by kernel_rfl) ?_
  simp only [opsAt, List.map_cons, List.map_nil, List.toList_toArray, List.getD_cons_succ, List.getD_cons_zero]
  unfold ClsH
  repeat (go_big_quiet_step (fail))
  refine wpQuiet_nil ?_
  (try rw [← ClsH_def])
  refine mixB_ch (i := 1) (fuel := 2) (by kernel_rfl) (by kernel_rfl) ?_
  simp only [opsAt, List.map_cons, List.map_nil, List.toList_toArray, List.getD_cons_succ, List.getD_cons_zero]
  go_wp2_with (go_at_call 40; refine HM.out.mono ?_; rintro e w1 ⟨b, rfl, hk, hb, L, hm⟩)
  refine ThenB.mk (ClsH.of ⟨hCw.kept.trans hk, by obtain ⟨x3, hg⟩ := hm.2.2.2.1; exact hg.cell rfl⟩) (fun hCw => ?_)
  refine mixB_end [8, 9] (by kernel_rfl) ?_
  simp only [opsAt, List.map_cons, List.map_nil, List.toList_toArray, List.getD_cons_succ, List.getD_cons_zero]
  have hlk : (Instr.lookup 73 (.map (some b)) (.agg #[.int .i64 0, .int .i64 (texts.length : Int)]) false).run Tryd.prog w1 = .ok (.string (bs (rootL texts))) w1 := by
    have := run_lookup_span (0, (texts.length : Int)) w1 b L hm.2.2.2.2.1
    rw [HR.out L hm.2.2.2.2.2.1 hm.2.2.2.2.2.2] at this
    exact this
  have HF : Hid (∃ b, MadePost S texts g tp cap w w1 b) := Lib.hid ⟨b, (KeptG.of_below ((Below.refl _ w).drew)).trans hk, ((Below.refl _ w).drew).trans hb, L, hm⟩
  clear hk hb hm hCw
  go_wp2
  refine Calm.normal ?_
  go_wp2
  go_ret
  exact ⟨rfl, HF.out⟩
theorem root_nil (w : World) : Calls Tryd.prog 18 #[.pointer none] w fun e' w' => e' = .returned (.string (bs [])) ∧ w = w' := by
  go_enter Tryd.func18, Tryd.ntmps18
  go_wp2
  go_ret
  exact ⟨rfl, rfl⟩
theorem size_nil (w : World) : Calls Tryd.prog 24 #[.pointer none] w fun e' w' => e' = .returned (.int .i64 0) ∧ w = w' := by
  go_enter Tryd.func24, Tryd.ntmps24
  go_wp2
  go_ret
  exact ⟨rfl, rfl⟩
theorem path_nil (i : Int) (w : World) : Calls Tryd.prog 19 #[.pointer none, .int .i64 i] w fun e' w' => e' = .returned (.tuple #[.slice none 0 0, .int .i64 1]) ∧ w = w' := by
  go_enter Tryd.func19, Tryd.ntmps19
  go_wp2
  go_ret2
  exact ⟨rfl, rfl⟩
theorem growth_nil (i : Int) (w : World) : Calls Tryd.prog 25 #[.pointer none, .int .i64 i] w fun e' w' => e' = .returned (.tuple #[.slice none 0 0, .int .i64 1]) ∧ w = w' := by
  go_enter Tryd.func25, Tryd.ntmps25
  go_wp2
  go_ret2
  exact ⟨rfl, rfl⟩
theorem size_any (S : Nat → Prop) (texts : List (List UInt8)) (g : Nat) (tp : Option Addr) (cap : Nat) (w : World) (h : TreeIn S texts g tp cap w) :
    Calls Tryd.prog 24 #[.pointer (some ⟨g, 0, none⟩)] w fun e' w' => e' = .returned (.int .i64 (texts.length : Int)) ∧ w = w' := by
  obtain ⟨_, _, _, _, hblk⟩ := h.block
  have c0 := hblk.cell (i := 0) rfl
  clear h hblk
  go_enter Tryd.func24, Tryd.ntmps24
  go_wp2
  go_ret
  exact ⟨rfl, rfl⟩
theorem new_many (p : Option Addr) (n c : Nat) (w : World) (hn : 1024 < n) : Calls Tryd.prog 17 #[.slice p n c] w fun e' w' => e' = .returned (.tuple #[.pointer none, .int .i64 3]) ∧ w = w' := by
  have hd : decide (1024 < n) = true := decide_eq_true hn
  go_enter Tryd.func17, Tryd.ntmps17
  go_wp2
  go_ret2
  exact ⟨rfl, rfl⟩
/-- A row that a call owns, as a row of texts. -/
theorem hasS_own {R : Nat} {w : World} {v : Value} {l : List (List UInt8)} (h : w.ownsRow R 9 1 v l.length (l.map fun s => Value.string (bs s))) : ∃ p c, v = .slice p l.length c ∧ HasS (fun x => R ≤ x) w p l := by
  rcases Nat.eq_zero_or_pos l.length with h0 | h0
  · rcases h.2 with ⟨rfl, h0'⟩ | ⟨g, cap, cur, rfl, _⟩
    · exact ⟨none, 0, by rw [h0], fun j hj => by omega⟩
    · exact ⟨_, _, rfl, fun j hj => by omega⟩
  · obtain ⟨g, cap, rfl, hr, hg, _, hc⟩ := own_open h h0
    exact ⟨_, _, rfl, fun j hj => ⟨g, 0, rfl, hr, hg, by rw [Nat.zero_add]; exact hc j _ hj (by rw [List.getElem?_map, List.getElem?_eq_getElem hj]; rfl)⟩⟩
set_option maxHeartbeats 2000000 in
theorem clone_any (l : List (List UInt8)) (S : Nat → Prop) (p : Option Addr) (c : Nat) (w : World) (hl : HasS S w p l) (hn : l.length ≤ 4294967296) :
    Calls Tryd.prog 34 #[.slice p l.length c] w fun e' w' => ∃ v, e' = .returned v ∧ w'.ownsRow w.heap.size 9 1 v l.length (l.map fun s => Value.string (bs s)) ∧ Below w.heap.size w w' := by
  rcases Nat.eq_zero_or_pos l.length with h0 | h0
  · obtain rfl := List.eq_nil_of_length_eq_zero h0
    cases p with
    | none => exact (Tryd.slices_Clone_string_nil 0 c w).mono (by rintro e w1 ⟨rfl, rfl⟩; exact ⟨_, rfl, ⟨rfl, Or.inl ⟨rfl, rfl⟩⟩, Below.refl _ _⟩)
    | some a => exact (Tryd.slices_Clone_string_zero a c w).mono (by rintro e w1 ⟨v, rfl, h, _, hb⟩; exact ⟨_, rfl, h, hb⟩)
  · obtain ⟨g, o, rfl, _⟩ := hl 0 h0
    have h := Tryd.slices_Clone_string g o l.length c (l.map bs) w (by simp) (by omega) (fun j hj => by
      rw [List.length_map] at hj
      obtain ⟨g', o', he, _, _, hc⟩ := hl j hj
      simp only [Option.some.injEq, Addr.mk.injEq] at he
      obtain ⟨rfl, rfl, _⟩ := he
      rw [hc, List.getD_eq_getElem?_getD, List.getElem?_map, List.getElem?_eq_getElem hj]
      rfl)
    refine h.mono ?_
    rintro e w1 ⟨v, rfl, h, _, hb⟩
    refine ⟨_, rfl, ?_, hb⟩
    rw [List.take_of_length_le (by simp), List.map_map] at h
    exact h
set_option maxHeartbeats 2000000 in
theorem new_any (l : List (List UInt8)) (S : Nat → Prop) (p : Option Addr) (c : Nat) (w : World) (hl : HasS S w p l) (hn : l.length ≤ 1024) :
    Calls Tryd.prog 17 #[.slice p l.length c] w fun e' w' => ∃ g tp cap, e' = .returned (.tuple #[.pointer (some ⟨g, 0, none⟩), .int .i64 0]) ∧ TreeIn (fun x => w.heap.size ≤ x) l g tp cap w' ∧ Below w.heap.size w w' := by
  have HC := Lib.hid (clone_any l S p c w hl (by omega))
  obtain ⟨n, hnl⟩ : ∃ n, n = l.length := ⟨_, rfl⟩
  rw [← hnl] at hn HC ⊢
  have HN := Lib.hid hnl
  have hd : decide (1024 < n) = false := decide_eq_false (by omega)
  clear hl hnl
  go_enter Tryd.func17, Tryd.ntmps17
  go_wp2_with fail
  go_at_call 34
  refine HC.out.mono ?_
  rintro e w1 ⟨v, rfl, ho, hb⟩
  rw [HN.out] at ho
  obtain ⟨tp, cap, rfl, hs⟩ := hasS_own ho
  rw [← HN.out]
  have HO := Lib.hid hs
  have HB := Lib.hid hb
  clear ho hb hs
  go_wp2
  go_ret2
  have hs := HO.out
  rw [HN.out]
  refine ⟨w1.heap.size, tp, cap, rfl, .inr ⟨HB.out.size, ?_, _, IsBlk.new _ _ _⟩, HB.out.alloc HB.out.size _⟩
  have hs2 : HasS (fun x => w.heap.size ≤ x ∧ x < w1.heap.size) w1 tp l := fun i hi => by
    obtain ⟨gg, o, q1, q2, q3, q4⟩ := hs i hi
    exact ⟨gg, o, q1, ⟨q2, q3⟩, q3, q4⟩
  exact hs2.ext_to (fun x hx => ⟨hx.1, by omega⟩) (fun x hx _ => ((Below.refl w1.heap.size w1).alloc (Nat.le_refl _) _).block x hx.2)
end Go.Proofs.YtfnlehnhcekpkaaDoor

/- merkle: what Tree.made does at first: the closure that Once calls. Conditions: the tree lies in memory; its texts are no longer than 2^40 bytes, at most 2^40. -/
import Derived.Test.YtfnlehnhcekpkaaDoorMkO
import Derived.Laws.EntriesVeiled
import Derived.Tactics
import Derived.Tactics2
import Derived.Defers
import Derived.Laws.Pointers
import Derived.Laws.LoneSync
import Derived.RegionTactic
import Derived.RegionCalls
import Derived.ChangeAlike
import Derived.Laws.NewBlocks
set_option linter.unusedVariables false
set_option linter.unusedSimpArgs false
namespace Go.Proofs.YtfnlehnhcekpkaaDoor
open Go Go.RowKit Go.BigFrame
set_option maxRecDepth 100000

set_option maxHeartbeats 4000000 in
theorem made1_any (texts : List (List UInt8)) (g bt : Nat) (tp : Option Addr) (cap : Nat) (x1 x2 x3 : Value) (w : World) (hK : Ks w) (hkg : 2 ≠ g) (htl : texts.length ≤ 1099511627776) (hts : ∀ s ∈ texts, s.length ≤ 1099511627776)
    (ht : w.cell? ⟨bt, 0, none⟩ = some (.pointer (some ⟨g, 0, none⟩))) (hbt : bt ≠ g) (hg : IsBlk w g #[.slice tp texts.length cap, x1, x2, x3, .map none] 75) (hs : HasS (fun _ => True) w tp texts) :
    Calls Tryd.prog 62 #[.pointer (some ⟨bt, 0, none⟩)] w fun e' w' => e' = .returned (.tuple #[]) ∧ KeptG g w w' ∧ Below g w w' ∧ ∃ b L, IsBlk w' g #[.slice tp texts.length cap, x1, x2, x3, .map (some b)] 75 ∧ MapIs w' b L ∧ GoodM texts L ∧ (∀ c d, Under 0 texts.length c d → got L ((c : Int), (d : Int)) ≠ none) ∧ w.heap.size ≤ b := by
  have hmm := @run_makeMap Tryd.prog
  have hmf : ∀ (fn : Fn) (first cap : Array Value) (w : World), (Instr.makeFunc fn first cap).run Tryd.prog w = .ok (.func fn first cap) w := fun _ _ _ _ => rfl
  have HTS := Lib.hid hts
  have hgl := hg.lt
  have hbl := cell_lt' ht
  have HG := Lib.hid hg
  have HS := Lib.hid hs
  have HK := Lib.hid hK
  have HT := Lib.hid ht
  clear hts hg hs hK ht
  go_enter Tryd.func62, Tryd.ntmps62
  go_upto_region 3 with (fail)
  generalize hW3 : World.alloc (World.alloc (World.alloc w _) _) _ = W3
  have hbw : Below w.heap.size w W3 := by rw [← hW3]; exact (((Below.refl _ _).alloc (Nat.le_refl _) _).alloc (by simp) _).alloc (by simp; omega) _
  have hmap : MapIs W3 w.heap.size [] := by
    refine ⟨#[], 0, ?_, rfl⟩
    rw [← hW3]
    rw [Below.heap_alloc _ _ _ (by simp; omega), Below.heap_alloc _ _ _ (by simp)]
    show (w.heap.push _)[w.heap.size]? = _
    simp
  have hbr : IsBlk W3 (w.heap.size + 1) #[.map (some w.heap.size)] 73 := by rw [← hW3]; exact (IsBlk.new_at (by simp)).alloc _
  have hbo : IsBlk W3 (w.heap.size + 2) #[.func (.func 63) #[] #[.pointer (some ⟨bt, 0, none⟩), .pointer (some ⟨w.heap.size + 2, 0, none⟩), .pointer (some ⟨w.heap.size + 1, 0, none⟩)]] 97 := by rw [← hW3]; exact IsBlk.new_at (by simp)
  have hg3 := HG.out.ext hbw
  have henv : OfEnv texts w.heap.size g bt (w.heap.size + 2) (w.heap.size + 1) tp cap W3 := {
    ct := by rw [hbw.cell (p := ⟨bt, 0, none⟩) hbl]; exact HT.out
    co := hbo.cell rfl
    cr := hbr.cell rfl
    cg := hg3.cell rfl
    nt := by omega
    no := by omega
    nr := by omega
    ng := by omega
    hs := by
      intro i hi
      obtain ⟨gg, o, h1, _, h3, h4⟩ := HS.out i hi
      exact ⟨gg, o, h1, by omega, Nat.lt_of_lt_of_le h3 hbw.size, by rw [hbw.cell (p := ⟨gg, o + i, none⟩) h3]; exact h4⟩
    k := HK.out.ext hbw
    kb := by have := HK.out.lt; omega }
  clear hW3
  have hog1 : Og w.heap.size W3 (w.heap.size + 2) := ⟨hbo.lt, by omega⟩
  have hog2 : Og w.heap.size W3 bt := ⟨by have := hbw.size; omega, by omega⟩
  have hog3 : Og w.heap.size W3 g := ⟨hg3.lt, by omega⟩
  have ct := henv.ct
  have co := henv.co
  have cg := henv.cg
  have HOF := Lib.hid (of_all texts w.heap.size g bt (w.heap.size + 2) (w.heap.size + 1) tp cap htl HTS.out _ _ (Nat.lt_succ_self texts.length))
  have HE := Lib.hid henv
  have HM := Lib.hid hmap
  have HB := Lib.hid hbw
  have HBR := Lib.hid hbr
  have HG3 := Lib.hid hg3
  clear henv hmap hbw hbr hbo hg3 hmm
  refine mixB_start [] (ClsG w.heap.size W3) (by kernel_rfl) (ClsG.drew w.heap.size W3) (fun hCw => ?_)
  refine mixB_flt (by kernel_rfl) [0, 1, 2, 3, 4, 5, 6] 1 _ _ hCw (by kernel_rfl) ?_
  simp only [opsAt, List.map_cons, List.map_nil, List.toList_toArray, List.getD_cons_succ, List.getD_cons_zero]
  unfold ClsG
  repeat (go_big_quiet_step (fail))
  refine wpQuiet_nil ?_
  (try rw [← ClsG_def])
  refine mixB_ch (i := 7) (fuel := 0) (by kernel_rfl) (by kernel_rfl) ?_
  simp only [opsAt, List.map_cons, List.map_nil, List.toList_toArray, List.getD_cons_succ, List.getD_cons_zero]
  go_wp2_with (go_at_call 63; have h7 := HOF.out 0 [] _ (by omega) (HE.out.kept hCw.kept) (by have := HM.out; exact this) (fun a n d h => by cases h); rw [show ((0 : Nat) : Int) = 0 from rfl] at h7; refine h7.mono ?_; clear h7; rintro e' w5 ⟨rfl, hk5, hb5, L5, hm5, hg5, hmo5, hu5⟩)
  refine ThenB.mk (hCw.trans hk5) (fun hCw => ?_)
  refine mixB_end [] (by kernel_rfl) ?_
  refine wpList_nil ?_
  refine Calm.normal ?_
  have hk := hCw.kept
  have henv := HE.out.kept hk
  have hbr5 : IsBlk w5 (w.heap.size + 1) #[.map (some w.heap.size)] 73 := (hk.2 _ HBR.out.lt (by omega)).trans HBR.out
  have hg5b : IsBlk w5 g #[.slice tp texts.length cap, x1, x2, x3, .map none] 75 := (hk.2 _ HG3.out.lt (by omega)).trans HG3.out
  have hb35 : Below w.heap.size W3 w5 := (Below.refl _ W3).drew.trans hb5
  have r0 := hbr5.cell (i := 0) rfl
  have c4 := hg5b.cell (i := 4) rfl
  have f4 := hg5b.frozen 4
  clear ct co cg hog1 hog2 hog3
  have ct := henv.ct
  have HFIN : Hid (KeptG g w (w5.setCell ⟨g, 4, none⟩ (.map (some w.heap.size))) ∧ Below g w (w5.setCell ⟨g, 4, none⟩ (.map (some w.heap.size))) ∧ ∃ b L, IsBlk (w5.setCell ⟨g, 4, none⟩ (.map (some w.heap.size))) g #[.slice tp texts.length cap, x1, x2, x3, .map (some b)] 75 ∧ MapIs (w5.setCell ⟨g, 4, none⟩ (.map (some w.heap.size))) b L ∧ GoodM texts L ∧ (∀ c d, Under 0 texts.length c d → got L ((c : Int), (d : Int)) ≠ none) ∧ w.heap.size ≤ b) := by
    refine Lib.hid ⟨?_, ?_, w.heap.size, L5, by simpa using hg5b.set 4 (.map (some w.heap.size)), ?_, hg5, hu5, Nat.le_refl _⟩
    · refine ⟨?_, fun b hb hne => ?_⟩
      · have h1 := HB.out.size; have h2 := hb35.size; simp; omega
      · rw [Below.heap_setCell _ _ _ _ hne, hk.2 b (by have := HB.out.size; omega) (by omega), HB.out.block b hb]
    · exact below_set ((HB.out.mono (by omega)).trans (hb35.mono (by omega))) (Nat.le_refl _)
    · obtain ⟨es, cl, h1, h2⟩ := hm5
      exact ⟨es, cl, by rw [Below.heap_setCell _ _ _ _ (show w.heap.size ≠ g by omega)]; exact h1, h2⟩
  clear hk henv hbr5 hg5b hb35 hk5 hb5 hm5 hg5 hmo5 hu5 hCw
  go_wp2
  go_end0
  exact ⟨rfl, HFIN.out⟩
/-! sync.Once in one goroutine: the parts, after the guide's worked example. -/
theorem race_disable (w : World) : (callFunc 91 #[]).run Tryd.prog w = .ok (.value (.tuple #[])) w := run_call_mark0 Tryd.func91 (by kernel_rfl) (by kernel_rfl) (by kernel_rfl) .disable (by kernel_rfl) w
theorem race_enable (w : World) : (callFunc 93 #[]).run Tryd.prog w = .ok (.value (.tuple #[])) w := run_call_mark0 Tryd.func93 (by kernel_rfl) (by kernel_rfl) (by kernel_rfl) .enable (by kernel_rfl) w
theorem race_acquire (a : Addr) (w : World) : (callFunc 94 #[.pointer (some a)]).run Tryd.prog w = .ok (.value (.tuple #[])) w := run_call_marked Tryd.func94 (by kernel_rfl) (by kernel_rfl) (by kernel_rfl) .acquire (by kernel_rfl) a w
theorem race_releaseMerge (a : Addr) (w : World) : (callFunc 96 #[.pointer (some a)]).run Tryd.prog w = .ok (.value (.tuple #[])) w := run_call_marked Tryd.func96 (by kernel_rfl) (by kernel_rfl) (by kernel_rfl) .releaseMerge (by kernel_rfl) a w
theorem store_deferred (a : Addr) (x : Value) (u : FrameMode) (w : World) (hc : w.cell? a = some x) (hz : w.frozen? a = false) :
    CallsD Tryd.prog 85 #[.pointer (some a), .bool true] u w fun e u' w' => u' = u ∧ (e = .returned (.tuple #[]) ∧ w' = w.drew.setCell a (.int .u32 1)) := by
  have hc' : w.drew.cell? a = some x := by go_simp
  have hz' : w.drew.frozen? a = false := by go_simp
  have hst := run_call_store (P := Tryd.prog) Tryd.func89 (by kernel_rfl) (by kernel_rfl) (by kernel_rfl) (by kernel_rfl) (k := .u32) (y := 1) hc' hz'
  go_enter_d Tryd.func85, Tryd.ntmps85
  go_wp2
  go_region_calls
  all_goals (go_end0; exact ⟨rfl, rfl⟩)
theorem unlock_deferred (a : Addr) (u : FrameMode) (w : World) (hc : w.cell? a = some (.int .i32 1)) (hz : w.frozen? a = false) :
    CallsD Tryd.prog 84 #[.pointer (some a)] u w fun e u' w' => u' = u ∧ (e = .returned (.tuple #[]) ∧ w' = w.setCell a (.int .i32 0)) := by
  have hd := race_disable
  have he := race_enable
  have hr := race_releaseMerge
  have hadd := run_call_add (P := Tryd.prog) Tryd.func97 (by kernel_rfl) (by kernel_rfl) (by kernel_rfl) .i32 (by kernel_rfl) (y := -1) (s := 0) hc hz (by simp [go_sem]; rfl)
  have hcv := run_convert_to_unsafe (P := Tryd.prog) (src := 121) (dst := 125) Tryd.underlying121 Tryd.underlying125 (by kernel_rfl) hc
  go_enter_d Tryd.func84, Tryd.ntmps84
  go_wp2
  go_end0
  go_wp2
  go_end0
  exact ⟨rfl, rfl⟩
theorem lock_free (a : Addr) (w : World) (hc : w.cell? a = some (.int .i32 0)) (hz : w.frozen? a = false) :
    Calls Tryd.prog 83 #[.pointer (some a)] w fun e w' => e = .returned (.tuple #[]) ∧ w' = w.setCell a (.int .i32 1) := by
  have hd := race_disable
  have he := race_enable
  have ha := race_acquire
  have hcas := run_call_cas_hit (P := Tryd.prog) Tryd.func92 (by kernel_rfl) (by kernel_rfl) (by kernel_rfl) .i32 (by kernel_rfl) (y := 1) hc hz
  have hc' : (w.setCell a (.int .i32 1)).cell? a = some (.int .i32 1) := World.cell?_setCell_same w a _ hc
  have hcv := run_convert_to_unsafe (P := Tryd.prog) (src := 121) (dst := 125) Tryd.underlying121 Tryd.underlying125 (by kernel_rfl) hc'
  go_enter Tryd.func83, Tryd.ntmps83
  go_wp2
  first | go_end0 | (simp only [Exit.inBlock, Exit.then]; refine bodyPost_ret (results_none rfl _ _ _) rfl ?_) | refine bodyPost_ret (results_none rfl _ _ _) rfl ?_
  go_wp2
  go_end0
  exact ⟨rfl, rfl⟩
/-- What the tree's block and memory are like when its digests are made. -/
def MadeAt (texts : List (List UInt8)) (g : Nat) (tp : Option Addr) (cap : Nat) (x3 : Value) (w : World) (b : Nat) : Prop := ∃ L, IsBlk w g #[.slice tp texts.length cap, .int .u32 1, .int .i32 0, x3, .map (some b)] 75 ∧ MapIs w b L ∧ GoodM texts L ∧ ∀ c d, Under 0 texts.length c d → got L ((c : Int), (d : Int)) ≠ none
def FreshAt (texts : List (List UInt8)) (g : Nat) (tp : Option Addr) (cap : Nat) (x3 : Value) (w : World) : Prop := IsBlk w g #[.slice tp texts.length cap, .int .u32 0, .int .i32 0, x3, .map none] 75
theorem bload_any (a : Addr) (d : Int) (w : World) (h : w.cell? a = some (.int .u32 d)) :
    Calls Tryd.prog 74 #[.pointer (some a)] w fun e w' => e = .returned (.bool (d != 0)) ∧ w = w' := by
  have hl := run_call_load (P := Tryd.prog) Tryd.func82 (by kernel_rfl) (by kernel_rfl) (by kernel_rfl) .u32 (by kernel_rfl) h
  go_enter Tryd.func74, Tryd.ntmps74
  go_wp2
  go_ret
  exact ⟨rfl, rfl⟩
set_option maxHeartbeats 4000000 in
theorem slow_any (texts : List (List UInt8)) (g bt : Nat) (tp : Option Addr) (cap : Nat) (x3 : Value) (w : World) (hK : Ks w) (hkg : 2 ≠ g) (htl : texts.length ≤ 1099511627776) (hts : ∀ s ∈ texts, s.length ≤ 1099511627776)
    (ht : w.cell? ⟨bt, 0, none⟩ = some (.pointer (some ⟨g, 0, none⟩))) (hbt : bt ≠ g) (hg : FreshAt texts g tp cap x3 w) (hs : HasS (fun x => x ≠ g) w tp texts) :
    Calls Tryd.prog 75 #[.pointer (some ⟨g, 1, none⟩), .func (.func 62) #[] #[.pointer (some ⟨bt, 0, none⟩)]] w fun e' w' => e' = .returned (.tuple #[]) ∧ KeptG g w w' ∧ Below g w w' ∧ ∃ b, w.heap.size ≤ b ∧ MadeAt texts g tp cap x3 w' b := by
  have hgb : IsBlk w g #[.slice tp texts.length cap, .int .u32 0, .int .i32 0, x3, .map none] 75 := hg
  have h1 := hgb.cell (i := 1) rfl
  have h2 := hgb.cell (i := 2) rfl
  have f1 := hgb.frozen 1
  have f2 := hgb.frozen 2
  have hW1 : IsBlk (w.setCell ⟨g, 2, none⟩ (.int .i32 1)) g #[.slice tp texts.length cap, .int .u32 0, .int .i32 1, x3, .map none] 75 := by simpa using hgb.set 2 (.int .i32 1)
  have hl0 := hW1.cell (i := 1) rfl
  have HL := Lib.hid hl0
  clear hl0
  have hk1 : KeptG g w (w.setCell ⟨g, 2, none⟩ (.int .i32 1)) := KeptG.set _ _ _ _
  have hb1 : Below g w (w.setCell ⟨g, 2, none⟩ (.int .i32 1)) := below_set (Below.refl _ _) (Nat.le_refl _)
  have hm1 : Hid (Calls Tryd.prog 62 #[.pointer (some ⟨bt, 0, none⟩)] (w.setCell ⟨g, 2, none⟩ (.int .i32 1)) fun e' w' => e' = .returned (.tuple #[]) ∧ KeptG g (w.setCell ⟨g, 2, none⟩ (.int .i32 1)) w' ∧ Below g (w.setCell ⟨g, 2, none⟩ (.int .i32 1)) w' ∧ ∃ b L, IsBlk w' g #[.slice tp texts.length cap, .int .u32 0, .int .i32 1, x3, .map (some b)] 75 ∧ MapIs w' b L ∧ GoodM texts L ∧ (∀ c d, Under 0 texts.length c d → got L ((c : Int), (d : Int)) ≠ none) ∧ (w.setCell ⟨g, 2, none⟩ (.int .i32 1)).heap.size ≤ b) :=
    Lib.hid (made1_any texts g bt tp cap _ _ _ _ (by
      obtain ⟨t, fr, hb⟩ := hK
      exact ⟨t, fr, by rw [Below.heap_setCell _ _ _ _ hkg]; exact hb⟩) hkg htl hts ((World.cell?_setCell_other _ _ _ _ (fun h => hbt (congrArg Addr.block h).symm)).trans ht) hbt hW1 (hs.ext_to (fun _ _ => trivial) (fun x hx _ => Below.heap_setCell _ _ _ _ hx)))
  have HK1 := Lib.hid hk1
  have HB1 := Lib.hid hb1
  have hnot : ∀ (x : Bool) (w : World), (Op.unary .not (.bool x)).run Tryd.prog w = .ok (.bool (!x)) w := fun _ _ => rfl
  clear hgb hg hW1 hk1 hb1 hs ht hts hK
  go_enter_defers Tryd.func75, Tryd.ntmps75
  go_wp2_with (go_at_call 83; refine (lock_free ⟨g, 2, none⟩ _ (by go_simp) (by go_simp)).mono ?_; rintro e w ⟨rfl, rfl⟩)
  go_at_call 74
  refine (bload_any _ 0 _ HL.out).mono ?_
  rintro e w9 ⟨rfl, rfl⟩
  rw [show ((0 : Int) != 0) = false from rfl]
  go_wp2_with fail
  go_at_call 62
  refine hm1.out.mono ?_
  rintro e' w2 ⟨rfl, hk2, hb2, b, L, hg2, hm2, hgood, hu, hbs⟩
  have c1 := hg2.cell (i := 1) rfl
  have c2 := hg2.cell (i := 2) rfl
  have z1 := hg2.frozen 1
  have z2 := hg2.frozen 2
  have HG2 := Lib.hid hg2
  have HM2 := Lib.hid hm2
  have HK2 := Lib.hid hk2
  have HB2 := Lib.hid hb2
  clear hg2 hm2 hk2 hb2 h1 h2 f1 f2
  go_wp2
  refine leaves_cons (f := 85) (args := #[.pointer (some ⟨g, 1, none⟩), .bool true]) (by simp) (by simp [go_sem]) ?_
  refine (store_deferred ⟨g, 1, none⟩ (.int .u32 0) .returning _ c1 z1).mono ?_
  rintro e u' w'' ⟨rfl, rfl, rfl⟩
  refine leaves_cons (f := 84) (args := #[.pointer (some ⟨g, 2, none⟩)]) (by simp [settle]) (by simp [go_sem]) ?_
  have hW3 : IsBlk (w2.drew.setCell ⟨g, 1, none⟩ (.int .u32 1)) g #[.slice tp texts.length cap, .int .u32 1, .int .i32 1, x3, .map (some b)] 75 := by simpa using HG2.out.drew.set 1 (.int .u32 1)
  refine (unlock_deferred ⟨g, 2, none⟩ _ _ (hW3.cell rfl) (hW3.frozen 2)).mono ?_
  rintro e u' w'' ⟨rfl, rfl, rfl⟩
  have hfin : KeptG g w ((w2.drew.setCell ⟨g, 1, none⟩ (.int .u32 1)).setCell ⟨g, 2, none⟩ (.int .i32 0)) ∧ Below g w ((w2.drew.setCell ⟨g, 1, none⟩ (.int .u32 1)).setCell ⟨g, 2, none⟩ (.int .i32 0)) ∧ ∃ b, w.heap.size ≤ b ∧ MadeAt texts g tp cap x3 ((w2.drew.setCell ⟨g, 1, none⟩ (.int .u32 1)).setCell ⟨g, 2, none⟩ (.int .i32 0)) b := by
    refine ⟨?_, ?_, b, by simpa using hbs, L, by simpa using hW3.set 2 (.int .i32 0), ?_, hgood, hu⟩
    · exact (((HK1.out.trans HK2.out).drew).trans (KeptG.set g 1 _ _)).trans (KeptG.set g 2 _ _)
    · exact below_set (below_set ((HB1.out.trans HB2.out).drew) (Nat.le_refl _)) (Nat.le_refl _)
    · have hbg : b ≠ g := fun e => by
        obtain ⟨es, cl, h1, _⟩ := HM2.out
        rw [e, show w2.heap[g]? = _ from HG2.out] at h1
        cases h1
      obtain ⟨es, cl, h1, h2⟩ := HM2.out
      refine ⟨es, cl, ?_, h2⟩
      rw [Below.heap_setCell _ _ _ _ hbg, Below.heap_setCell _ _ _ _ hbg]
      exact h1
  simp [Leaves, settle, results, Tryd.results75]
  exact hfin
end Go.Proofs.YtfnlehnhcekpkaaDoor

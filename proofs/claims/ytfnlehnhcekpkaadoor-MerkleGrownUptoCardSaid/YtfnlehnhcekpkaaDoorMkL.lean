/- What a merkle law asks first: answers that the document gives. Conditions: the tables read as the texts lay them. -/
import Derived.Test.YtfnlehnhcekpkaaDoorMkX
set_option linter.unusedVariables false
set_option linter.unusedSimpArgs false
namespace Go.Proofs.YtfnlehnhcekpkaaDoor
open Go Go.RowKit Go.BigFrame
set_option maxRecDepth 100000

def abL : List UInt8 := nodeL (leafL [97]) (leafL [98])
theorem other_leaf : (nodeL abL (leafL [100]) == nodeL abL (leafL [99])) = false := by decide +kernel
theorem half3 : halfN 3 = 2 := by decide +kernel
theorem half2 : halfN 2 = 1 := by decide +kernel
theorem root3 : rootL [[97], [98], [99]] = nodeL abL (leafL [99]) := by
  rw [rootL_two (by decide) (by decide), show ([[97], [98], [99]] : List (List UInt8)).length = 3 from rfl, half3]
  show nodeL (rootL [[97], [98]]) (rootL [[99]]) = _
  rw [rootL_two (l := [[97], [98]]) (by decide) (by decide), show ([[97], [98]] : List (List UInt8)).length = 2 from rfl, half2]
  rfl
theorem path3 : pathD [[97], [98], [99]] 0 3 2 = [abL] := by
  rw [pathD_right (by decide) (by decide) (by rw [half3]; decide), half3, pathD_one (by decide)]
  show [rootL [[97], [98]]] = _
  rw [rootL_two (l := [[97], [98]]) (by decide) (by decide), show ([[97], [98]] : List (List UInt8)).length = 2 from rfl, half2]
  rfl
theorem down3 : downL 2 3 = [false] := by
  rw [downL_right (by decide) (by decide) (by rw [half3]; decide), half3, downL_one (by decide)]
theorem shows3 (s : List UInt8) : showsB (nodeL abL (leafL [99])) s 2 3 [abL] = (nodeL abL (leafL s) == nodeL abL (leafL [99])) := by
  have hd : dig32 [abL] = true := by
    show (abL.length == 32 && true) = true
    rw [show abL.length = 32 from nodeL_length _ _]
    rfl
  unfold showsB
  rw [if_neg (by rw [hd]; decide), if_neg (by rw [show (2 : Int).toNat = 2 from rfl, show (3 : Int).toNat = 3 from rfl, down3]; decide), show (2 : Int).toNat = 2 from rfl, show (3 : Int).toNat = 3 from rfl, down3]
  rfl
theorem leafOf_any (s : List UInt8) (w : World) (hK : Ks w) (hs : s.length ≤ 1099511627776) :
    Calls Tryd.prog 39 #[.string (bs s)] w fun e' w' => e' = .returned (.string (bs (leafL s))) ∧ Below w.heap.size w w' := by
  have hsz := bs_size s
  have HK := Lib.hid hK
  have HS : Hid (∀ x : ByteArray, x = ⟨#[0]⟩ ++ bs s → x = bs (0 :: s)) := Lib.hid (fun x h => by rw [h, bs_cons]; rfl)
  clear hK
  go_enter Tryd.func39, Tryd.ntmps39
  go_wp2_with fail
  go_at_call 23
  refine (sum_l (0 :: s) _ (HS.out _ rfl) _ HK.out (by rw [List.length_cons]; omega)).mono ?_
  rintro e' w1 ⟨rfl, hb⟩
  have HB := Lib.hid hb
  clear hb
  go_wp2
  go_ret
  exact ⟨rfl, HB.out⟩
theorem add0 (w : World) (hK : Ks w) (hT : TzT w) (htg : 1 < w.heap.size) :
    Calls Tryd.prog 11 #[.agg #[.int .i64 0, .slice none 0 0], .string (bs [97])] w fun e' w' => ∃ p c, 1 ≤ c ∧ e' = .returned (.tuple #[.agg #[.int .i64 1, .slice p 1 c], .int .i64 0]) ∧ HasS (fun _ => True) w' p [leafL [97]] ∧ Below w.heap.size w w' := by
  have hp : peaksB 0 [] = true := by decide +kernel
  have hl : addT 0 [] [97] = [leafL [97]] := by
    unfold addT
    rw [hp, if_neg (by decide), if_neg (by decide)]
    rfl
  refine (add_any 0 [] [97] (fun _ => True) none 0 w hK hT htg (by decide) (Nat.le_refl _) (fun i hi => by cases hi) (by decide) (fun s hs => by cases hs)).mono ?_
  rintro e' w1 ⟨v, rfl, ho, hb⟩
  rw [hl] at ho
  rcases ho.2 with ⟨_, h0⟩ | ⟨g, cap, cur, rfl, _, _, hnc, _⟩
  · cases h0
  obtain ⟨p, c, hv, hh⟩ := hasS_own ho
  refine ⟨some ⟨g, 0, none⟩, cap, hnc, ?_, ?_, hb⟩
  · unfold addC addE
    rw [hp, if_neg (by decide), if_neg (by decide), if_neg (by decide), if_neg (by decide)]
    rfl
  · have he : p = some ⟨g, 0, none⟩ := by
      simp only [Value.slice.injEq] at hv
      exact hv.1.symm
    rw [← he]
    exact hh.ext_to (fun _ _ => trivial) (fun _ _ _ => rfl)
theorem dig_one {x : List UInt8} (h : x.length = 32) : dig32 [x] = true := by
  show (x.length == 32 && true) = true
  rw [h]
  rfl
theorem top1 (p : Option Addr) (c : Nat) (w : World) (hK : Ks w) (hc : 1 ≤ c) (hs : HasS (fun _ => True) w p [leafL [97]]) :
    Calls Tryd.prog 13 #[.agg #[.int .i64 1, .slice p 1 c]] w fun e' w' => e' = .returned (.tuple #[.string (bs (leafL [97])), .int .i64 0]) ∧ Below w.heap.size w w' := by
  have hp : peaksB 1 [leafL [97]] = true := by
    unfold peaksB
    rw [dig_one (leafL_length _)]
    decide +kernel
  refine (top_any 1 [leafL [97]] _ p c w hK hc hs (by decide) (fun s hs => by rw [List.mem_singleton.1 hs, leafL_length]; omega)).mono ?_
  rintro e' w1 ⟨rfl, hb⟩
  rw [hp, if_neg (by decide), if_neg (by decide)]
  exact ⟨rfl, hb⟩
set_option maxHeartbeats 8000000 in
theorem lives_any (w : World) (hK : Ks w) (hT : TzT w) (htg : 1 < w.heap.size) : Calls Tryd.prog 15 #[] w fun e' w' => e' = .returned (.bool true) ∧ Below w.heap.size w w' := by
  have hkl := hK.lt
  have HK := Lib.hid hK
  have HT := Lib.hid hT
  have hl : ∀ (c : UInt8) w', Below w.heap.size w w' → Calls Tryd.prog 39 #[.string ⟨#[c]⟩] w' fun e' w'' => e' = .returned (.string (bs (leafL [c]))) ∧ Below w'.heap.size w' w'' := fun c w' hb => leafOf_any [c] w' (hK.ext hb) (by simp)
  have HLF := Lib.hid hl
  have hcat : ∀ (a b : List UInt8) (x : ByteArray), x = ⟨#[1]⟩ ++ bs a ++ bs b → x = bs (1 :: (a ++ b)) := fun a b x h => by rw [h, bs_cons2]; rfl
  have HCAT := Lib.hid hcat
  have ha : (leafL [97]).length = 32 := leafL_length _
  have hb' : (leafL [98]).length = 32 := leafL_length _
  have hc' : (leafL [99]).length = 32 := leafL_length _
  have hab : abL.length = 32 := nodeL_length _ _
  have hshow : ∀ (c : UInt8) w' (S : Nat → Prop) (p : Option Addr) (pc : Nat), Below w.heap.size w w' → HasS S w' p [abL] → Calls Tryd.prog 21 #[.string (bs (nodeL abL (leafL [99]))), .string ⟨#[c]⟩, .int .i64 2, .int .i64 3, .slice p 1 pc] w' fun e' w'' => e' = .returned (.bool (nodeL abL (leafL [c]) == nodeL abL (leafL [99]))) ∧ Below w'.heap.size w' w'' := fun c w' S p pc hb hp => by
    have h := shows_any (nodeL abL (leafL [99])) [c] 2 3 [abL] S p pc w' (hK.ext hb) (by rw [show (nodeL abL (leafL [99])).length = 32 from nodeL_length _ _]; omega) (by simp) hp (by simp) (fun x hx => by rw [List.mem_singleton.1 hx, show abL.length = 32 from nodeL_length _ _]; omega)
    rw [shows3] at h
    exact h
  have HSHOW0 := Lib.hid hshow
  have HSHOW : Hid (∀ (c : UInt8) w', Below w.heap.size w w' → ∀ {S : Nat → Prop} {p : Option Addr} {pc : Nat}, HasS S w' p [abL] → Calls Tryd.prog 21 #[.string (bs (nodeL abL (leafL [99]))), .string ⟨#[c]⟩, .int .i64 2, .int .i64 3, .slice p 1 pc] w' fun e' w'' => e' = .returned (.bool (nodeL abL (leafL [c]) == nodeL abL (leafL [99]))) ∧ Below w'.heap.size w' w'') := Lib.hid (fun c w' hb {S} {p} {pc} hp => hshow c w' S p pc hb hp)
  clear hK hT hl hcat hshow HSHOW0
  have hIW : IsBlk (w.alloc (.cells #[.string ⟨#[97]⟩, .string ⟨#[98]⟩, .string ⟨#[99]⟩] 9)) w.heap.size #[.string ⟨#[97]⟩, .string ⟨#[98]⟩, .string ⟨#[99]⟩] 9 := IsBlk.new _ _ _
  have hbw : Below w.heap.size w (w.alloc (.cells #[.string ⟨#[97]⟩, .string ⟨#[98]⟩, .string ⟨#[99]⟩] 9)) := (Below.refl _ _).alloc (Nat.le_refl _) _
  have hrow : HasS (fun _ => True) (w.alloc (.cells #[.string ⟨#[97]⟩, .string ⟨#[98]⟩, .string ⟨#[99]⟩] 9)) (some ⟨w.heap.size, 0, none⟩) [[97], [98], [99]] := fun i hi => by
    refine ⟨w.heap.size, 0, rfl, trivial, hIW.lt, ?_⟩
    rw [Nat.zero_add]
    have h3 : i < 3 := hi
    match i, h3 with
    | 0, _ => exact hIW.cell (i := 0) rfl
    | 1, _ => exact hIW.cell (i := 1) rfl
    | 2, _ => exact hIW.cell (i := 2) rfl
  have hnew : Calls Tryd.prog 17 #[.slice (some ⟨w.heap.size, 0, none⟩) 3 3] (w.alloc (.cells #[.string ⟨#[97]⟩, .string ⟨#[98]⟩, .string ⟨#[99]⟩] 9)) fun e' w' => ∃ g tp cap, e' = .returned (.tuple #[.pointer (some ⟨g, 0, none⟩), .int .i64 0]) ∧ TreeIn (fun x => (w.alloc (.cells #[.string ⟨#[97]⟩, .string ⟨#[98]⟩, .string ⟨#[99]⟩] 9)).heap.size ≤ x) [[97], [98], [99]] g tp cap w' ∧ Below (w.alloc (.cells #[.string ⟨#[97]⟩, .string ⟨#[98]⟩, .string ⟨#[99]⟩] 9)).heap.size (w.alloc (.cells #[.string ⟨#[97]⟩, .string ⟨#[98]⟩, .string ⟨#[99]⟩] 9)) w' := new_any [[97], [98], [99]] _ _ 3 _ hrow (by decide)
  have HNEW := Lib.hid hnew
  have HBW := Lib.hid hbw
  clear hIW hbw hrow hnew
  go_enter Tryd.func15, Tryd.ntmps15
  go_wp2_with fail
  go_at_call 17
  refine HNEW.out.mono ?_
  rintro e' w1 ⟨g, tp, cap, rfl, htr, hb⟩
  have hgl : w.heap.size < g := by
    rcases htr with ⟨b, L, h, _⟩ | ⟨h, _⟩
    · rw [World.size_alloc] at h; omega
    · rw [World.size_alloc] at h; omega
  have HB1 := Lib.hid (HBW.out.trans (hb.mono HBW.out.size))
  have htr1 : TreeIn (fun x => w.heap.size ≤ x) [[97], [98], [99]] g tp cap w1 := htr.ext_to (fun x hx _ => by rw [World.size_alloc] at hx; omega) (fun _ _ _ => rfl)
  have hsz1 := HB1.out.size
  have hpath : Calls Tryd.prog 19 #[.pointer (some ⟨g, 0, none⟩), .int .i64 2] w1 fun e' w' => ∃ v, e' = .returned (.tuple #[v, .int .i64 0]) ∧ w'.ownsRow w1.heap.size 9 1 v 1 (strsV [abL]) ∧ KeptG g w1 w' ∧ Below g w1 w' ∧ TreeIn (fun x => w.heap.size ≤ x) [[97], [98], [99]] g tp cap w' := by
    have h := path_in (fun x => w.heap.size ≤ x) [[97], [98], [99]] g tp cap 2 w1 (HK.out.ext HB1.out) (by omega) (by decide) (by decide) htr1 (fun x hx => by omega) (by decide)
    rw [show ([[97], [98], [99]] : List (List UInt8)).length = 3 from rfl, path3] at h
    exact h
  have HPATH := Lib.hid hpath
  obtain ⟨_, _, _, _, hblk⟩ := htr1.block
  have hg1 := hblk.lt
  clear hb htr htr1 hpath hblk
  go_wp2_with fail
  go_at_call 19
  refine HPATH.out.mono ?_
  rintro e' w2 ⟨v, rfl, hown, hk2, hb2, htr2⟩
  obtain ⟨pp, pc, rfl, hrow⟩ := hasS_own (l := [abL]) hown
  rw [show ([abL] : List (List UInt8)).length = 1 from rfl]
  have HB2 := Lib.hid (HB1.out.trans (hb2.mono (by omega)))
  have HTR2 := Lib.hid htr2
  have HROW2 := Lib.hid hrow
  have hsz2 := HB2.out.size
  have hsz12 := hk2.1
  clear hown hk2 hb2 htr2 hrow
  -- from here printed by genlives.py
  go_wp2_with fail
  go_at_call 39
  refine (HLF.out 97 w2 HB2.out).mono ?_
  rintro e' w3 ⟨rfl, hb⟩
  have HB3 := Lib.hid (HB2.out.trans (hb.mono hsz2))
  have HTR3 := Lib.hid (HTR2.out.ext hb)
  have HROW3 := Lib.hid (HROW2.out.ext hb)
  have hsz3 := HB3.out.size
  clear hb
  go_wp2_with fail
  go_at_call 39
  refine (HLF.out 98 w3 HB3.out).mono ?_
  rintro e' w4 ⟨rfl, hb⟩
  have HB4 := Lib.hid (HB3.out.trans (hb.mono hsz3))
  have HTR4 := Lib.hid (HTR3.out.ext hb)
  have HROW4 := Lib.hid (HROW3.out.ext hb)
  have hsz4 := HB4.out.size
  clear hb
  go_wp2_with fail
  go_at_call 23
  refine (sum_l (1 :: (leafL [97] ++ leafL [98])) _ (HCAT.out _ _ _ rfl) w4 (HK.out.ext HB4.out) (by rw [List.length_cons, List.length_append]; omega)).mono ?_
  rintro e' w5 ⟨rfl, hb⟩
  rw [show shaL (1 :: (leafL [97] ++ leafL [98])) = abL from rfl]
  have HB5 := Lib.hid (HB4.out.trans (hb.mono hsz4))
  have HTR5 := Lib.hid (HTR4.out.ext hb)
  have HROW5 := Lib.hid (HROW4.out.ext hb)
  have hsz5 := HB5.out.size
  clear hb
  have hadd := add0 w5 (HK.out.ext HB5.out) (TzT.ext HB5.out HT.out htg) (by omega)
  have HADD := Lib.hid hadd
  clear hadd
  go_wp2_with fail
  go_at_call 11
  refine HADD.out.mono ?_
  rintro e' w6 ⟨qp, qc, hqc, rfl, hq, hb⟩
  have HB6 := Lib.hid (HB5.out.trans (hb.mono hsz5))
  have HTR6 := Lib.hid (HTR5.out.ext hb)
  have HROW6 := Lib.hid (HROW5.out.ext hb)
  have hsz6 := HB6.out.size
  have HQ := Lib.hid hq
  clear hb hq
  have hbq : Below w6.heap.size w6 (w6.alloc (.cells #[.int .i64 1, .slice qp 1 qc] 24)) := (Below.refl _ _).alloc (Nat.le_refl _) _
  have HTOP := Lib.hid (top1 qp qc _ (HK.out.ext (HB6.out.trans (hbq.mono hsz6))) hqc (HQ.out.ext hbq))
  have HBQ := Lib.hid hbq
  clear hbq
  go_wp2_with fail
  go_at_call 13
  refine HTOP.out.mono ?_
  rintro e' w7 ⟨rfl, hb0⟩
  have hb := below_ext HBQ.out hb0
  have HB7 := Lib.hid (HB6.out.trans (hb.mono hsz6))
  have HTR7 := Lib.hid (HTR6.out.ext hb)
  have HROW7 := Lib.hid (HROW6.out.ext hb)
  have hsz7 := HB7.out.size
  clear hb hb0
  have hbs : Below w7.heap.size w7 (w7.alloc (.cells #[.string (bs abL)] 9)) := (Below.refl _ _).alloc (Nat.le_refl _) _
  have hrs : HasS (fun _ => True) (w7.alloc (.cells #[.string (bs abL)] 9)) (some ⟨w7.heap.size, 0, none⟩) [abL] := fun i hi => by
    obtain rfl : i = 0 := by have : i < 1 := hi; omega
    exact ⟨w7.heap.size, 0, rfl, trivial, (IsBlk.new _ _ _).lt, (IsBlk.new _ _ _).cell (i := 0) rfl⟩
  have hsame : Calls Tryd.prog 16 #[.slice pp 1 pc, .slice (some ⟨w7.heap.size, 0, none⟩) 1 1] (w7.alloc (.cells #[.string (bs abL)] 9)) fun e' w' => e' = .returned (.bool true) ∧ Below (w7.alloc (.cells #[.string (bs abL)] 9)).heap.size (w7.alloc (.cells #[.string (bs abL)] 9)) w' := by
    have h := same_any [abL] [abL] _ _ pp _ pc 1 _ (HROW7.out.ext hbs) hrs (by decide) (by decide)
    rw [decide_eq_true rfl] at h
    exact h
  have HSAME := Lib.hid hsame
  have HBS := Lib.hid hbs
  clear hsame hrs hbs
  go_wp2_with fail
  go_at_call 16
  refine HSAME.out.mono ?_
  rintro e' w8 ⟨rfl, hb0⟩
  have hb := below_ext HBS.out hb0
  have HB8 := Lib.hid (HB7.out.trans (hb.mono hsz7))
  have HTR8 := Lib.hid (HTR7.out.ext hb)
  have HROW8 := Lib.hid (HROW7.out.ext hb)
  have hsz8 := HB8.out.size
  clear hb hb0
  go_wp2_with fail
  go_at_call 18
  refine (root_any (fun x => w.heap.size ≤ x) [[97], [98], [99]] g tp cap w8 (HK.out.ext HB8.out) (by omega) (by decide) (by decide) HTR8.out (fun x hx => by omega)).mono ?_
  rintro e' w9 ⟨rfl, b, hk, hb, L, hm⟩
  rw [root3]
  have HB9 := Lib.hid (HB8.out.trans (hb.mono (by omega)))
  have HTR9 : Hid (TreeIn (fun x => w.heap.size ≤ x) [[97], [98], [99]] g tp cap w9) := Lib.hid (.inl ⟨b, L, hm⟩)
  have HROW9 := Lib.hid (HROW8.out.ext_to (fun _ h => h) (fun x hx hlt => hk.2 x hlt (by omega)))
  have hsz9 := HB9.out.size
  clear hk hb hm
  go_wp2_with fail
  go_at_call 39
  refine (HLF.out 99 w9 HB9.out).mono ?_
  rintro e' w10 ⟨rfl, hb⟩
  have HB10 := Lib.hid (HB9.out.trans (hb.mono hsz9))
  have HTR10 := Lib.hid (HTR9.out.ext hb)
  have HROW10 := Lib.hid (HROW9.out.ext hb)
  have hsz10 := HB10.out.size
  clear hb
  go_wp2_with fail
  go_at_call 23
  refine (sum_l (1 :: (abL ++ leafL [99])) _ (HCAT.out _ _ _ rfl) w10 (HK.out.ext HB10.out) (by rw [List.length_cons, List.length_append]; omega)).mono ?_
  rintro e' w11 ⟨rfl, hb⟩
  rw [show shaL (1 :: (abL ++ leafL [99])) = nodeL abL (leafL [99]) from rfl]
  have HB11 := Lib.hid (HB10.out.trans (hb.mono hsz10))
  have HTR11 := Lib.hid (HTR10.out.ext hb)
  have HROW11 := Lib.hid (HROW10.out.ext hb)
  have hsz11 := HB11.out.size
  clear hb
  go_wp2_with fail
  go_at_call 24
  refine (size_any _ _ g tp cap w11 HTR11.out).mono ?_
  rintro e' wz ⟨rfl, rfl⟩
  go_wp2_with fail
  go_at_call 18
  refine (root_any (fun x => w.heap.size ≤ x) [[97], [98], [99]] g tp cap w11 (HK.out.ext HB11.out) (by omega) (by decide) (by decide) HTR11.out (fun x hx => by omega)).mono ?_
  rintro e' w12 ⟨rfl, b, hk, hb, L, hm⟩
  rw [root3]
  have HB12 := Lib.hid (HB11.out.trans (hb.mono (by omega)))
  have HTR12 : Hid (TreeIn (fun x => w.heap.size ≤ x) [[97], [98], [99]] g tp cap w12) := Lib.hid (.inl ⟨b, L, hm⟩)
  have HROW12 := Lib.hid (HROW11.out.ext_to (fun _ h => h) (fun x hx hlt => hk.2 x hlt (by omega)))
  have hsz12 := HB12.out.size
  clear hk hb hm
  go_wp2_with fail
  go_at_call 21
  refine (HSHOW.out 99 w12 HB12.out HROW12.out).mono ?_
  rintro e' w13 ⟨rfl, hb⟩
  rw [beq_self_eq_true]
  have HB13 := Lib.hid (HB12.out.trans (hb.mono hsz12))
  have HTR13 := Lib.hid (HTR12.out.ext hb)
  have HROW13 := Lib.hid (HROW12.out.ext hb)
  have hsz13 := HB13.out.size
  clear hb
  go_wp2_with fail
  go_at_call 18
  refine (root_any (fun x => w.heap.size ≤ x) [[97], [98], [99]] g tp cap w13 (HK.out.ext HB13.out) (by omega) (by decide) (by decide) HTR13.out (fun x hx => by omega)).mono ?_
  rintro e' w14 ⟨rfl, b, hk, hb, L, hm⟩
  rw [root3]
  have HB14 := Lib.hid (HB13.out.trans (hb.mono (by omega)))
  have HTR14 : Hid (TreeIn (fun x => w.heap.size ≤ x) [[97], [98], [99]] g tp cap w14) := Lib.hid (.inl ⟨b, L, hm⟩)
  have HROW14 := Lib.hid (HROW13.out.ext_to (fun _ h => h) (fun x hx hlt => hk.2 x hlt (by omega)))
  have hsz14 := HB14.out.size
  clear hk hb hm
  go_wp2_with fail
  go_at_call 21
  refine (HSHOW.out 100 w14 HB14.out HROW14.out).mono ?_
  rintro e' w15 ⟨rfl, hb⟩
  rw [other_leaf]
  have HB15 := Lib.hid (HB14.out.trans (hb.mono hsz14))
  have HTR15 := Lib.hid (HTR14.out.ext hb)
  have HROW15 := Lib.hid (HROW14.out.ext hb)
  have hsz15 := HB15.out.size
  clear hb
  go_wp2_with fail
  go_at_call 39
  refine (HLF.out 97 w15 HB15.out).mono ?_
  rintro e' w16 ⟨rfl, hb⟩
  have HB16 := Lib.hid (HB15.out.trans (hb.mono hsz15))
  have HTR16 := Lib.hid (HTR15.out.ext hb)
  have HROW16 := Lib.hid (HROW15.out.ext hb)
  have hsz16 := HB16.out.size
  clear hb
  go_wp2
  go_ret
  exact ⟨rfl, HB16.out⟩
end Go.Proofs.YtfnlehnhcekpkaaDoor

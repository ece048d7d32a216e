/- MerkleAdds: peaks to which texts were added one by one have the root of them all as their top. Conditions: at most 2^40 texts, none longer than 2^40 bytes; the tables read as the texts lay them. -/
import Derived.Test.YtfnlehnhcekpkaaDoorMkPk
import Derived.Test.YtfnlehnhcekpkaaDoorMkPeaks
set_option linter.unusedVariables false
set_option linter.unusedSimpArgs false
namespace Go.Proofs.YtfnlehnhcekpkaaDoor
open Go Go.RowKit Go.BigFrame
set_option maxRecDepth 100000

theorem pk_32 (l : List (List UInt8)) : ∀ s ∈ pkN l, s.length ≤ 1099511627776 := fun s hs => by rw [pkF_32 12 l s hs]; omega
/-- Add to the peaks of the first k texts. -/
theorem addk_any (l : List (List UInt8)) (s : List UInt8) (S : Nat → Prop) (p : Option Addr) (cap : Nat) (w : World) (hK : Ks w) (hT : TzT w) (htg : 1 < w.heap.size) (hsl : s.length ≤ 1099511627776) (hl : l.length ≤ 1024) (hcap : (pkN l).length ≤ cap) (hs : HasS S w p (pkN l)) :
    Calls Tryd.prog 11 #[.agg #[.int .i64 (l.length : Int), .slice p (pkN l).length cap], .string (bs s)] w fun e' w' => Below w.heap.size w w' ∧
      (l.length = 1024 → ∃ p' c', e' = .returned (.tuple #[.agg #[.int .i64 0, .slice p' 0 c'], .int .i64 3])) ∧
      (l.length < 1024 → ∃ p' c', (pkN (l ++ [s])).length ≤ c' ∧ e' = .returned (.tuple #[.agg #[.int .i64 ((l.length : Int) + 1), .slice p' (pkN (l ++ [s])).length c'], .int .i64 0]) ∧ HasS (fun x => w.heap.size ≤ x) w' p' (pkN (l ++ [s]))) := by
  refine (add_any (l.length : Int) (pkN l) s S p cap w hK hT htg hsl hcap hs (by have := pkN_le hl; omega) (pk_32 l)).mono ?_
  rintro e' w' ⟨v, rfl, hown, hb⟩
  have hok := pkN_ok hl
  refine ⟨hb, fun h => ?_, fun h => ?_⟩
  · have e1 : addC (l.length : Int) (pkN l) = 0 := by unfold addC; rw [if_neg (by rw [hok]; simp), if_pos (by omega)]
    have e2 : addE (l.length : Int) (pkN l) = 3 := by unfold addE; rw [if_neg (by rw [hok]; simp), if_pos (by omega)]
    have e3 : addT (l.length : Int) (pkN l) s = [] := by unfold addT; rw [if_neg (by rw [hok]; simp), if_pos (by omega)]
    rw [e3] at hown
    rcases hown.2 with ⟨rfl, _⟩ | ⟨g, c, cur, rfl, h⟩
    · exact ⟨_, _, by rw [e1, e2]⟩
    · exact ⟨_, _, by rw [e1, e2]; rfl⟩
  · have e1 : addC (l.length : Int) (pkN l) = (l.length : Int) + 1 := by unfold addC; rw [if_neg (by rw [hok]; simp), if_neg (by omega)]
    have e2 : addE (l.length : Int) (pkN l) = 0 := by unfold addE; rw [if_neg (by rw [hok]; simp), if_neg (by omega)]
    have e3 : addT (l.length : Int) (pkN l) s = pkN (l ++ [s]) := by unfold addT; rw [if_neg (by rw [hok]; simp), if_neg (by omega), Int.toNat_natCast]; exact pkN_add s h
    rw [e3] at hown
    have hne : 0 < (pkN (l ++ [s])).length := by
      have := pkF_ne 12 (l ++ [s]) (by rw [List.length_append, List.length_singleton]; omega) (by simp)
      exact List.length_pos_iff.2 this
    obtain ⟨g, c, rfl, hg, hgl, hlc, hc⟩ := own_open hown hne
    refine ⟨_, c, hlc, by rw [e1, e2], fun i hi => ⟨g, 0, rfl, hg, hgl, ?_⟩⟩
    rw [Nat.zero_add]
    exact hc i _ hi (by unfold strsV; rw [List.getElem?_map, List.getElem?_eq_getElem hi]; rfl)
theorem topk_any (l : List (List UInt8)) (S : Nat → Prop) (p : Option Addr) (cap : Nat) (w : World) (hK : Ks w) (hl : l.length ≤ 1024) (hcap : (pkN l).length ≤ cap) (hs : HasS S w p (pkN l)) :
    Calls Tryd.prog 13 #[.agg #[.int .i64 (l.length : Int), .slice p (pkN l).length cap]] w fun e' w' => e' = .returned (.tuple #[.string (bs (rootL l)), .int .i64 0]) ∧ Below w.heap.size w w' := by
  refine (top_any (l.length : Int) (pkN l) S p cap w hK hcap hs (by have := pkN_le hl; omega) (pk_32 l)).mono ?_
  rintro e' w' h
  obtain ⟨rfl, hb⟩ := h.flat
  have hok := pkN_ok hl
  have e1 : topE (l.length : Int) (pkN l) = 0 := by unfold topE; rw [if_neg (by rw [hok]; simp)]
  have e2 : topS (l.length : Int) (pkN l) = rootL l := by
    unfold topS
    rw [if_neg (by rw [hok]; simp)]
    by_cases h0 : l = []
    · subst h0; rfl
    · rw [if_neg (by have := List.length_pos_iff.2 h0; omega), pkN_top h0 hl]
  exact ⟨by rw [e1, e2], hb⟩
set_option maxHeartbeats 8000000 in
theorem adds_any (l : List (List UInt8)) (S : Nat → Prop) (p : Option Addr) (cap : Nat) (w : World) (hK : Ks w) (hT : TzT w) (htg : 1 < w.heap.size) (hs : HasS S w p l) (hll : l.length ≤ 1099511627776) (hts : ∀ s ∈ l, s.length ≤ 1099511627776) :
    Calls Tryd.prog 4 #[.slice p l.length cap] w fun e' w' => e' = .returned (.bool true) ∧ Below w.heap.size w w' := by
  have hkl := hK.lt
  have HL := Lib.hid (lives_any w hK hT htg)
  have HK := Lib.hid hK
  have HT := Lib.hid hT
  have HTS := Lib.hid hts
  have HARG := Lib.hid hs
  clear hK hT hs hts
  go_enter Tryd.func4, Tryd.ntmps4
  go_wp2_with fail
  go_at_call 15
  refine HL.out.mono ?_
  rintro e' w1 ⟨rfl, hb⟩
  have HB1 := Lib.hid hb
  have hsz1 := hb.size
  clear hb HL
  obtain ⟨n, hn⟩ : ∃ n, n = l.length := ⟨_, rfl⟩
  rw [← hn] at hll ⊢
  have HN := Lib.hid hn
  clear hn
  go_wp2
  go_loopw [17] (fun v wr => ∃ (k : Nat) (pp : Option Addr) (c : Nat), v = .int .i64 (k : Int) ∧ k ≤ n ∧ k ≤ 1024 ∧ (pkN (l.take k)).length ≤ c ∧ IsBlk wr w1.heap.size #[.int .i64 (k : Int), .slice pp (pkN (l.take k)).length c] 24 ∧ HasS (fun x => x ≠ w1.heap.size) wr pp (pkN (l.take k)) ∧ Below w1.heap.size w1 wr) (fun v _ => n - (intOf v).toNat)
  case atStart => exact ⟨0, none, 0, rfl, by omega, by omega, Nat.le_refl _, IsBlk.new _ _ _, (fun i hi => by simp [pkN, pkF_nil] at hi), (Below.refl _ _).alloc (Nat.le_refl _) _⟩
  case round =>
  obtain ⟨k, pp, c, rfl, hkn, hk, hc, hblk, hrow, hbw⟩ := hrel
  have x0 := hblk.cell (i := 0) rfl
  have x1 := hblk.cell (i := 1) rfl
  have HBLK := Lib.hid hblk
  have HROW := Lib.hid hrow
  have HBR := Lib.hid hbw
  have hxl := hblk.lt
  have hszr := (HB1.out.trans (hbw.mono hsz1)).size
  have HBW := Lib.hid (HB1.out.trans (hbw.mono hsz1))
  clear hblk hrow hbw
  by_cases hlt : k < n
  · have hat : k < l.length := by rw [← HN.out]; exact hlt
    obtain ⟨g0, o0, hp0, _, hg0, hc0⟩ := (HARG.out.ext HBW.out) k hat
    have hsl := HTS.out _ (List.getElem_mem hat)
    have htk : (l.take k).length = k := by rw [List.length_take]; omega
    have hta : l.take k ++ [l[k]] = l.take (k + 1) := by rw [List.take_add_one, List.getElem?_eq_getElem hat]; rfl
    have HADD := Lib.hid (addk_any (l.take k) l[k] _ pp c wr (HK.out.ext HBW.out) (TzT.ext HBW.out HT.out htg) (by omega) hsl (by omega) hc HROW.out)
    rw [hta, htk] at HADD
    generalize l[k] = s at hc0 HADD
    subst hp0
    clear hta htk hsl hg0 hat
    go_wp2_with fail
    go_at_call 11
    refine HADD.out.mono ?_
    rintro e' w2 ⟨hb2, hfull, hmore⟩
    have HB2 := Lib.hid (HBW.out.trans (hb2.mono hszr))
    have hsz2 := HB2.out.size
    have HBR2 := Lib.hid (HBR.out.trans (hb2.mono (HBR.out.size)))
    have hblk2 := HBLK.out.ext hb2
    have hbl2 := hblk2.lt
    have HBLK2 := Lib.hid hblk2
    clear hb2 hblk2 x0 x1 hc0
    by_cases hful : k = 1024
    · obtain ⟨p', c', rfl⟩ := hfull hful
      subst hful
      clear hmore hfull
      go_wp2
      go_ret
      exact ⟨rfl, HB2.out.trans ((Below.refl _ _).alloc hsz2 _)⟩
    · obtain ⟨p', c', hc', rfl, hrow⟩ := hmore (by omega)
      have hkI : (k : Int) < 1024 := by omega
      have HROW2 := Lib.hid hrow
      have hk1 : k + 1 ≤ 1024 := by omega
      clear hmore hfull hrow hful
      obtain ⟨M, hM⟩ : ∃ M, M = (pkN (l.take (k + 1))).length := ⟨_, rfl⟩
      rw [← hM] at hc' ⊢
      have HM := Lib.hid hM
      clear hM
      have hend : ∀ W, W = (w2.setCell ⟨w1.heap.size, 0, none⟩ (.int .i64 ((k : Int) + 1))).setCell ⟨w1.heap.size, 1, none⟩ (.slice p' M c') → IsBlk W w1.heap.size #[.int .i64 ((k + 1 : Nat) : Int), .slice p' M c'] 24 ∧ HasS (fun x => x ≠ w1.heap.size) W p' (pkN (l.take (k + 1))) ∧ Below w1.heap.size w1 W := by
        intro W hW
        subst hW
        refine ⟨by simpa using ((HBLK2.out.set 0 (.int .i64 ((k : Int) + 1))).set 1 (.slice p' M c')), ?_, below_set (below_set HBR2.out (Nat.le_refl _)) (Nat.le_refl _)⟩
        refine HROW2.out.ext_to (fun x hx => (by omega : x ≠ w1.heap.size)) (fun x hx hlt => ?_)
        have hne : x ≠ w1.heap.size := by omega
        rw [Below.heap_setCell _ _ _ _ hne, Below.heap_setCell _ _ _ _ hne]
      have HEND := Lib.hid hend
      have y0 := HBLK2.out.frozen 0
      have y1 := HBLK2.out.frozen 1
      have x0 := HBLK2.out.cell (i := 0) rfl
      have x1 := HBLK2.out.cell (i := 1) rfl
      clear hend
      go_wp2
      generalize hW : World.setCell _ _ _ = W
      obtain ⟨e1, e2, e3⟩ := HEND.out W hW.symm
      have E1 := Lib.hid (e1.alloc (.cells #[.int .i64 ((k : Int) + 1), .slice p' M c'] 24))
      have E2 := Lib.hid (e2.ext ((Below.refl _ _).alloc (Nat.le_refl _) (.cells #[.int .i64 ((k : Int) + 1), .slice p' M c'] 24)))
      have E3 := Lib.hid (e3.alloc e3.size (.cells #[.int .i64 ((k : Int) + 1), .slice p' M c'] 24))
      clear e1 e2 e3 hW y0 y1 x0 x1
      go_wp2
      go_roundw
      case rel => exact ⟨k + 1, p', c', by go_num, by omega, hk1, by rw [← HM.out]; exact hc', by rw [← HM.out]; exact E1.out, E2.out, E3.out⟩
      case measure => simp [intOf]; omega
  · obtain rfl : k = n := by omega
    have hta : l.take k = l := by rw [HN.out, List.take_length]
    have HTOP := Lib.hid (fun w' (hb : Below wr.heap.size wr w') => topk_any l _ pp c w' (HK.out.ext (HBW.out.trans (hb.mono hszr))) (by rw [← HN.out]; exact hk) (by rw [← hta]; exact hc) (by rw [← hta]; exact HROW.out.ext hb))
    have HNEW := Lib.hid (new_any l S p cap wr (HARG.out.ext HBW.out) (by rw [← HN.out]; exact hk))
    rw [← HN.out] at HNEW HTOP
    rw [hta] at x1 hc HBLK
    clear hta hc hlt HROW
    go_wp2_with fail
    go_at_call 17
    refine HNEW.out.mono ?_
    rintro e' w2 ⟨g, tp, tc, rfl, htr, hb⟩
    have hgl : wr.heap.size ≤ g := by
      rcases htr with ⟨b, L, h, _⟩ | ⟨h, _⟩
      · exact h
      · exact h
    have HB2 := Lib.hid (HBW.out.trans (hb.mono hszr))
    have htr2 : TreeIn (fun x => w.heap.size ≤ x) l g tp tc w2 := htr.ext_to (fun x hx _ => by omega) (fun _ _ _ => rfl)
    obtain ⟨_, _, _, _, hblk⟩ := htr2.block
    have hg2 := hblk.lt
    have HTR2 := Lib.hid htr2
    have hsz2 := HB2.out.size
    have HBN := Lib.hid hb
    have hP := HBLK.out.ext hb
    have x0 := hP.cell (i := 0) rfl
    have x1 := hP.cell (i := 1) rfl
    clear hb htr htr2 hblk hP
    go_wp2_with fail
    go_at_call 13
    refine (HTOP.out w2 HBN.out).mono ?_
    rintro e' w3 ⟨rfl, hb⟩
    have HB3 := Lib.hid (HB2.out.trans (hb.mono hsz2))
    have HTR3 := Lib.hid (HTR2.out.ext hb)
    have hg3 : g < w3.heap.size := by have := hb.size; omega
    have hsz3 := HB3.out.size
    have hself : ((bs (rootL l)).toList == (bs (rootL l)).toList) = true := by simp
    clear hb x0 x1
    go_wp2_with fail
    go_at_call 18
    refine (root_any (fun x => w.heap.size ≤ x) l g tp tc w3 (HK.out.ext HB3.out) (by omega) (by rw [← HN.out]; omega) HTS.out HTR3.out (fun x hx => by omega)).mono ?_
    rintro e' w4 ⟨rfl, b, hk', hb, L', hm⟩
    have HB4 := Lib.hid (HB3.out.trans (hb.mono (by omega)))
    clear hk' hb hm
    go_wp2
    go_ret
    exact ⟨rfl, HB4.out⟩
end Go.Proofs.YtfnlehnhcekpkaaDoor

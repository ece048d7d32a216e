/- MerkleAsked: a tree answers the same however often it is asked; what it answered is its asker's own. Conditions: at most 2^40 texts, none longer than 2^40 bytes; the tables read as the texts lay them. -/
import Derived.Test.YtfnlehnhcekpkaaDoorMkTrees
set_option linter.unusedVariables false
set_option linter.unusedSimpArgs false
namespace Go.Proofs.YtfnlehnhcekpkaaDoor
open Go Go.RowKit Go.BigFrame
set_option maxRecDepth 100000

theorem made_spoil {S : Nat → Prop} {l : List (List UInt8)} {g tc b : Nat} {tp q : Option Addr} {L : List (Span × List UInt8)} {w2 w4 wr : World} (h2 : TreeIn S l g tp tc w2) (h4 : MadeT S l g tp tc w4 b L) (hg : g < w2.heap.size) (hw : ∀ x, x < w4.heap.size → q ≠ some ⟨x, 0, none⟩ → wr.heap[x]? = w4.heap[x]?)
    (hq : ∀ x, q = some ⟨x, 0, none⟩ → w2.heap.size ≤ x ∧ ∃ cur, IsBlk w4 x cur 9) : TreeIn S l g tp tc wr := by
  have ht2 := h2.texts
  have hb : q ≠ some ⟨b, 0, none⟩ := fun e => by
    obtain ⟨_, cur, hc⟩ := hq b e
    obtain ⟨es, cl, h1, _⟩ := h4.2.2.2.2.1
    rw [show w4.heap[b]? = _ from hc] at h1
    cases h1
  obtain ⟨s1, s2, s3, ⟨x3, s4⟩, s5, s6, s7⟩ := h4
  have hgq : q ≠ some ⟨g, 0, none⟩ := fun e => by have := (hq g e).1; omega
  refine .inl ⟨b, L, s1, fun i hi => ?_, s3, ⟨x3, (hw g s4.lt hgq).trans s4⟩, s5.of_block (hw b s5.lt hb), s6, s7⟩
  obtain ⟨g', o', q1, q2, q3, q4⟩ := s2 i hi
  obtain ⟨g'', o'', r1, r2, r3, r4⟩ := ht2 i hi
  have hgg : g' = g'' := by
    rw [q1] at r1
    simp only [Option.some.injEq, Addr.mk.injEq] at r1
    exact r1.1
  have hne : q ≠ some ⟨g', 0, none⟩ := fun e => by have := (hq g' e).1; omega
  have hblk := hw g' q3 hne
  refine ⟨g', o', q1, q2, ?_, ?_⟩
  · rcases Nat.lt_or_ge g' wr.heap.size with h' | h'
    · exact h'
    · rw [Array.getElem?_eq_none h', Array.getElem?_eq_getElem q3] at hblk
      cases hblk
  · rw [← q4]
    unfold World.cell?
    simp only [hblk]
set_option maxHeartbeats 8000000 in
theorem asked_any (l : List (List UInt8)) (i : Int) (S : Nat → Prop) (p : Option Addr) (cap : Nat) (w : World) (hK : Ks w) (hT : TzT w) (htg : 1 < w.heap.size) (hcap : l.length ≤ cap) (hs : HasS S w p l) (hll : l.length ≤ 1099511627776) (hts : ∀ s ∈ l, s.length ≤ 1099511627776) :
    Calls Tryd.prog 5 #[.slice p l.length cap, .int .i64 i] w fun e' w' => e' = .returned (.bool true) ∧ Below w.heap.size w w' := by
  have hkl := hK.lt
  have HL := Lib.hid (lives_any w hK hT htg)
  have HK := Lib.hid hK
  have HTS := Lib.hid hts
  have HARG := Lib.hid hs
  clear hK hT hs hts
  go_enter Tryd.func5, Tryd.ntmps5
  go_wp2_with fail
  go_at_call 15
  refine HL.out.mono ?_
  rintro e' w1 ⟨rfl, hb⟩
  have HB1 := Lib.hid hb
  have hsz1 := hb.size
  clear hb
  by_cases hmany : 1024 < l.length
  · have hmI : (1024 : Int) < (l.length : Int) := by omega
    have h0 : (bs []).toList.isEmpty = true := by rw [tl_bs]; rfl
    go_wp2_with fail
    go_at_call 17
    refine (new_many p l.length cap w1 hmany).mono ?_
    rintro e' w2 ⟨rfl, rfl⟩
    go_wp2
    go_ret
    exact ⟨rfl, HB1.out⟩
  have hfew : l.length ≤ 1024 := by omega
  have hfI : (l.length : Int) ≤ 1024 := by omega
  go_wp2_with fail
  go_at_call 17
  refine (new_any l S p cap w1 (HARG.out.ext HB1.out) hfew).mono ?_
  rintro e' w2 ⟨g, tp, tc, rfl, htr, hb⟩
  have hgl : w1.heap.size ≤ g := by
    rcases htr with ⟨b, L, h, _⟩ | ⟨h, _⟩
    · exact h
    · exact h
  have HB2 := Lib.hid (HB1.out.trans (hb.mono hsz1))
  have htr2 : TreeIn (fun x => w.heap.size ≤ x) l g tp tc w2 := htr.ext_to (fun x hx _ => by omega) (fun _ _ _ => rfl)
  obtain ⟨_, _, _, _, hblk⟩ := htr2.block
  have hg2 := hblk.lt
  have HTR2 := Lib.hid htr2
  have hsz2 := HB2.out.size
  clear hb htr htr2 hblk
  obtain ⟨PV, hPV⟩ : ∃ PV, PV = pathV l i := ⟨_, rfl⟩
  obtain ⟨PE, hPE⟩ : ∃ PE, PE = pathE l i := ⟨_, rfl⟩
  have hPl : PV.length ≤ 1099511627776 := by have := pathV_length (l := l) (by omega) i; rw [hPV]; omega
  have HPATH := Lib.hid (fun w' (hb : Below w.heap.size w w') (ht : TreeIn (fun x => w.heap.size ≤ x) l g tp tc w') (hz : w.heap.size ≤ w'.heap.size) => path_tot (fun x => w.heap.size ≤ x) l g tp tc i w' (HK.out.ext hb) (by omega) (by omega) HTS.out ht (fun x hx => by omega))
  have HRPATH := Lib.hid (fun w' (hb : Below w.heap.size w w') => rpath_tot l i S p cap w' hcap (by omega) (HARG.out.ext hb) HTS.out)
  rw [← hPV, ← hPE] at HPATH HRPATH
  clear hPV hPE
  go_wp2_with fail
  go_at_call 19
  refine (HPATH.out w2 HB2.out HTR2.out hsz2).mono ?_
  rintro e' w3 ⟨v, rfl, hown, hk, hb, htr⟩
  have HB3 := Lib.hid (HB2.out.trans (hb.mono (by omega)))
  have HTR3 := Lib.hid htr
  have hg3 : g < w3.heap.size := by have := hk.1; omega
  have hsz3 := HB3.out.size
  have HOWN3 := Lib.hid hown
  have hz23 := hk.1
  clear hown hk hb htr
  have hvl : ∃ q c, v = .slice q PV.length c := by
    obtain ⟨q, c, h, _⟩ := hasS_own HOWN3.out
    exact ⟨q, c, h⟩
  obtain ⟨q, qc, rfl⟩ := hvl
  go_wp2_with fail
  go_at_call 18
  refine (root_any (fun x => w.heap.size ≤ x) l g tp tc w3 (HK.out.ext HB3.out) (by omega) (by omega) HTS.out HTR3.out (fun x hx => by omega)).mono ?_
  rintro e' w4 ⟨rfl, b, hk, hb, L', hm⟩
  have htr : TreeIn (fun x => w.heap.size ≤ x) l g tp tc w4 := .inl ⟨b, L', hm⟩
  have hown4 : w4.ownsRow w2.heap.size 9 1 (.slice q PV.length qc) PV.length (strsV PV) := own_other HOWN3.out (fun x hx => hk.2 x (HOWN3.out.lt x hx).2 (by have := (HOWN3.out.lt x hx).1; omega))
  have HB4 := Lib.hid (HB3.out.trans (hb.mono (by omega)))
  have HTR4 := Lib.hid htr
  have hg4 : g < w4.heap.size := by have := hk.1; omega
  have hsz4 := HB4.out.size
  have HOWN4 := Lib.hid hown4
  have hz34 := hk.1
  have HW4 := Lib.hid (hm : MadeT (fun x => w.heap.size ≤ x) l g tp tc w4 b L')
  clear hk hb hm htr hown4
  have hq4 : ∀ x, q = some ⟨x, 0, none⟩ → w2.heap.size ≤ x ∧ ∃ cur, IsBlk w4 x cur 9 := by
    intro x hx
    rcases HOWN4.out.2 with ⟨hv, _⟩ | ⟨gq, cap', cur, hv, hb, hh, _⟩
    · rw [hx] at hv; simp at hv
    · rw [hx] at hv
      simp only [Value.slice.injEq, Option.some.injEq, Addr.mk.injEq] at hv
      obtain ⟨⟨rfl, _⟩, _⟩ := hv
      exact ⟨hb, cur, hh⟩
  have hqn : ∀ j, j < PV.length → ∃ gq cur, q = some ⟨gq, 0, none⟩ ∧ w2.heap.size ≤ gq ∧ IsBlk w4 gq cur 9 ∧ PV.length ≤ cur.size := by
    intro j hj
    rcases HOWN4.out.2 with ⟨_, h0⟩ | ⟨gq, cap', cur, hv, hb, hh, hnc, hcm, hcs, _⟩
    · omega
    · simp only [Value.slice.injEq] at hv
      exact ⟨gq, cur, hv.1, hb, hh, by omega⟩
  have HQ4 := Lib.hid hq4
  have HQN := Lib.hid hqn
  have hwq : ∀ x, q = some ⟨x, 0, none⟩ → w2.heap.size ≤ x := fun x hx => (hq4 x hx).1
  have HWQ := Lib.hid hwq
  clear hq4 hqn hwq
  go_wp2
  go_loopw [36] (fun v wr => ∃ j : Nat, v = .int .i64 (j : Int) ∧ j ≤ PV.length ∧ Below w2.heap.size w4 wr ∧ (∀ x, x < w4.heap.size → q ≠ some ⟨x, 0, none⟩ → wr.heap[x]? = w4.heap[x]?) ∧ ∀ j, j < PV.length → ∃ gq cur, q = some ⟨gq, 0, none⟩ ∧ w2.heap.size ≤ gq ∧ IsBlk wr gq cur 9 ∧ PV.length ≤ cur.size) (fun v _ => PV.length - (intOf v).toNat)
  case atStart => exact ⟨0, rfl, by omega, Below.refl _ _, fun _ _ _ => rfl, HQN.out⟩
  case round =>
  clear HQN
  obtain ⟨j, rfl, hj, hbr, hsame, hqn⟩ := hrel
  have HBR := Lib.hid hbr
  have HSM := Lib.hid hsame
  have HQN := Lib.hid hqn
  clear hbr hsame hqn
  by_cases hlt : j < PV.length
  · obtain ⟨gq, cur, hq, hgq, hblk, hcs⟩ := HQN.out j hlt
    have hcj := hblk.cell (i := j) (v := cur[j]) (Array.getElem?_eq_getElem (by omega))
    have hfj := hblk.frozen j
    have hne : ∀ x, q ≠ some ⟨x, 0, none⟩ → x ≠ gq := fun x hx e => hx (by rw [e]; exact hq)
    have HF : Hid (Below w2.heap.size w4 (wr.setCell ⟨gq, j, none⟩ (.string ⟨#[115, 112, 111, 105, 108, 116]⟩)) ∧ (∀ x, x < w4.heap.size → q ≠ some ⟨x, 0, none⟩ → (wr.setCell ⟨gq, j, none⟩ (.string ⟨#[115, 112, 111, 105, 108, 116]⟩)).heap[x]? = w4.heap[x]?) ∧ ∀ k, k < PV.length → ∃ gq' cur', q = some ⟨gq', 0, none⟩ ∧ w2.heap.size ≤ gq' ∧ IsBlk (wr.setCell ⟨gq, j, none⟩ (.string ⟨#[115, 112, 111, 105, 108, 116]⟩)) gq' cur' 9 ∧ PV.length ≤ cur'.size) :=
      Lib.hid ⟨below_set HBR.out hgq, fun x hx hq' => by rw [Below.heap_setCell _ _ _ _ (hne x hq')]; exact HSM.out x hx hq', fun k _ => ⟨gq, _, hq, hgq, hblk.set j _, by rw [Array.size_setIfInBounds]; exact hcs⟩⟩
    have HQE := Lib.hid hq
    clear hblk hne HQN
    have hq2 := HQE.out
    subst hq2
    go_wp2
    go_roundw
    case rel => exact ⟨j + 1, by go_num, by omega, HF.out.1, HF.out.2.1, HF.out.2.2⟩
    case measure => simp [intOf]; omega
  obtain rfl : j = PV.length := by omega
  have HTR5 := Lib.hid (made_spoil HTR2.out HW4.out hg2 HSM.out HQ4.out)
  have HB5 := Lib.hid (HB4.out.trans (HBR.out.mono hsz2))
  have hsz5 := HB5.out.size
  have hg5 : g < wr.heap.size := by have := HBR.out.size; omega
  obtain ⟨w5, rfl⟩ : ∃ w5, w5 = wr := ⟨_, rfl⟩
  have hrl : (rootL l).length = 32 := rootL_len l
  have hself : ((bs (rootL l)).toList == (bs (rootL l)).toList) = true := by simp
  have hsr := bs_size (rootL l)
  have HRL := Lib.hid hrl
  have HSELF := Lib.hid hself
  clear HSM HQN HQ4 HWQ hrl hself hlt
  go_wp2_with fail
  go_at_call 19
  refine (HPATH.out w5 HB5.out HTR5.out hsz5).mono ?_
  rintro e' w6 ⟨v, rfl, hown, hk, hb, htr⟩
  obtain ⟨pRa, cRa, rfl, hrow⟩ := hasS_own (l := PV) hown
  have HB6 := Lib.hid (HB5.out.trans (hb.mono (by omega)))
  have HTR6 := Lib.hid htr
  have hg6 : g < w6.heap.size := by have := hk.1; omega
  have hsz6 := HB6.out.size
  have HRa6 := Lib.hid hrow
  clear hown hk hb htr hrow
  go_wp2_with fail
  go_at_call 20
  refine (HRPATH.out w6 HB6.out).mono ?_
  rintro e' w7 ⟨v, rfl, hown, hb⟩
  obtain ⟨pRb, cRb, rfl, hrow⟩ := hasS_own (l := PV) hown
  have HB7 := Lib.hid (HB6.out.trans (hb.mono hsz6))
  have HTR7 := Lib.hid (HTR6.out.ext hb)
  have HRa7 := Lib.hid (HRa6.out.ext hb)
  have hg7 : g < w7.heap.size := by have := hb.size; omega
  have hsz7 := HB7.out.size
  have HRb7 := Lib.hid hrow
  clear hown hb hrow
  go_wp2_with fail
  go_at_call 16
  refine (same_any PV PV _ _ pRa pRb cRa cRb w7 HRa7.out HRb7.out hPl hPl).mono ?_
  rintro e' w8 ⟨rfl, hb⟩
  rw [decide_eq_true rfl]
  have HB8 := Lib.hid (HB7.out.trans (hb.mono hsz7))
  have HTR8 := Lib.hid (HTR7.out.ext hb)
  have HRa8 := Lib.hid (HRa7.out.ext hb)
  have HRb8 := Lib.hid (HRb7.out.ext hb)
  have hg8 : g < w8.heap.size := by have := hb.size; omega
  have hsz8 := HB8.out.size
  clear hb
  go_wp2_with fail
  go_at_call 18
  refine (root_any (fun x => w.heap.size ≤ x) l g tp tc w8 (HK.out.ext HB8.out) (by omega) (by omega) HTS.out HTR8.out (fun x hx => by omega)).mono ?_
  rintro e' w9 ⟨rfl, b, hk, hb, L', hm⟩
  have htr : TreeIn (fun x => w.heap.size ≤ x) l g tp tc w9 := .inl ⟨b, L', hm⟩
  have HB9 := Lib.hid (HB8.out.trans (hb.mono (by omega)))
  have HTR9 := Lib.hid htr
  have HRa9 := Lib.hid (HRa8.out.ext_to (fun _ h => h) (fun x hx hlt => hk.2 x hlt (by omega)))
  have HRb9 := Lib.hid (HRb8.out.ext_to (fun _ h => h) (fun x hx hlt => hk.2 x hlt (by omega)))
  have hg9 : g < w9.heap.size := by have := hk.1; omega
  have hsz9 := HB9.out.size
  clear hk hb hm htr
  have hself := HSELF.out
  have h32 : ((rootL l).length : Int) = 32 := by have := HRL.out; omega
  go_wp2
  go_ret
  exact ⟨rfl, HB9.out⟩
end Go.Proofs.YtfnlehnhcekpkaaDoor

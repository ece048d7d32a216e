/- codicilref01: Sum, Hex. No conditions. -/
import Derived.Test.YtpnahmbhpbdpiaaDoorRefEnd
import Derived.Test.YtpnahmbhpbdpiaaDoorRefAdd
set_option linter.unusedVariables false
set_option linter.unusedSimpArgs false
namespace Go.Proofs.YtpnahmbhpbdpiaaDoor
open Go Go.RowKit Go.BigFrame
set_option maxRecDepth 100000

set_option maxHeartbeats 1000000 in
theorem rsum_any (s : ByteArray) (w : World) (hs : s.size ≤ 281474976710656) :
    Calls Tryd.prog 10 #[.string s] w fun e' w' => e' = .returned (.string (bs (shaL s.data.toList))) ∧ Below w.heap.size w w' := by
  have hL : s.data.toList.length = s.size := (ba_size s).symm
  have HL := Lib.hid hL; clear hL
  go_enter Tryd.func10, Tryd.ntmps10
  go_wp2_with fail
  go_at_call 18
  refine (rstart_any _).mono ?_
  rintro e' w1 ⟨rfl, hb⟩
  have H1 := Lib.hid hb; clear hb
  go_wp2_with fail
  go_at_call 20
  refine (all_any h0 rfl 0 (bs []) s _ (by rw [bs_size]; simpa using hs) (by decide) (by decide)).mono ?_
  rintro e' w2 ⟨he, hb⟩
  have e1 : ((0 : Int) + (s.size : Int)) % 18446744073709551616 = (s.data.toList.length : Int) := by rw [HL.out]; omega
  rw [bs_toList, List.nil_append, e1] at he
  subst he
  have H2 := Lib.hid (below_ext H1.out hb); clear hb e1
  go_wp2_with fail
  go_at_call 16
  refine (rend_any (more h0 s.data.toList).1 (more_length _ rfl _) (s.data.toList.length : Int) (bs (more h0 s.data.toList).2) _ (by rw [bs_size, more_rest _ _ _ (Nat.le_refl _)]; omega) (by omega) (by rw [HL.out]; omega)).mono ?_
  rintro e' w3 ⟨he, hb⟩
  rw [endP_more _ (by rw [HL.out]; omega)] at he
  subst he
  have H3 := Lib.hid (below_ext H2.out hb); clear hb
  go_wp2_with fail
  go_ret
  exact ⟨rfl, H3.out⟩

theorem u8s_hex (l : List UInt8) (k : Nat) (h : k < l.length) : u8s (hexL (l.take k)) ++ [.int .u8 ((hd ((l.getD k 0).toNat / 16)).toNat : Int), .int .u8 ((hd ((l.getD k 0).toNat % 16)).toNat : Int)] = u8s (hexL (l.take (k + 1))) := by
  rw [← hexL_step l k h, u8s_append, u8s_append, List.append_assoc]
  rfl
set_option maxHeartbeats 1000000 in
theorem rhex_any (s : ByteArray) (w : World) (hs : s.size ≤ 35184372088832) :
    Calls Tryd.prog 12 #[.string s] w fun e' w' => e' = .returned (.string (bs (hexL s.data.toList))) ∧ Below w.heap.size w w' := by
  obtain ⟨l, hl⟩ : ∃ l, l = s.data.toList := ⟨_, rfl⟩
  have hln : l.length = s.size := by rw [hl]; exact (ba_size s).symm
  rw [← hl]
  have HL := Lib.hid hl; clear hl
  have HN := Lib.hid hln; clear hln
  go_enter Tryd.func12, Tryd.ntmps12
  go_wp2
  go_loopw [4, 3] (fun i v wr => ∃ k : Nat, k ≤ s.size ∧ i = .int .i64 k ∧ wr.ownsRow w.heap.size 5 1 v (2 * k) (u8s (hexL (l.take k))) ∧ Below w.heap.size w wr) (fun i _ _ => s.size - (intOf i).toNat)
  case atStart => exact ⟨0, by omega, rfl, ⟨rfl, Or.inl ⟨rfl, rfl⟩⟩, Below.refl _ _⟩
  case round =>
  obtain ⟨k, hk, rfl, hown, hb⟩ := hrel
  have hbsz := hb.size
  have HW := Lib.hid hb; clear hb
  have HO := Lib.hid hown; clear hown
  by_cases hlt : k < s.size
  · have i0 : (k : Int) < (s.size : Int) := by omega
    have hkl : k < l.length := by rw [HN.out]; exact hlt
    have hst := u8s_hex l k hkl
    have hxb : (s[k]'hlt).toNat = (l.getD k 0).toNat := by
      have := by_at s k hlt
      rw [← HL.out] at this
      have h2 : by_ l k = ((l.getD k 0).toNat : Int) := rfl
      omega
    rw [← hxb] at hst
    have hx0 : (s[k]'hlt).toNat < 256 := (s[k]'hlt).toNat_lt
    have hq1 : ((s[k]'hlt).toNat : Int) / 16 ≤ 15 := by omega
    have hq2 : 0 ≤ ((s[k]'hlt).toNat : Int) / 16 := by omega
    have hr1 : ((s[k]'hlt).toNat : Int) % 16 ≤ 15 := by omega
    have hr2 : 0 ≤ ((s[k]'hlt).toNat : Int) % 16 := by omega
    have HST := Lib.hid hst; clear hst hkl hxb
    go_wp2
    refine mix_start [12, 13] (Cls wr) (by kernel_rfl) (Cls.of ((Below.refl _ _).drew)) ?_
    refine mix_flt (by kernel_rfl) [0, 1, 2, 3, 4, 5, 6, 7, 8, 9, 10] 3 _ _ (by kernel_rfl) ?_
    simp only [opsAt, List.map_cons, List.map_nil, List.toList_toArray, List.getD_cons_succ, List.getD_cons_zero]
    unfold Cls
    repeat (go_big_quiet_step (fail))
    refine wpQuiet_nil ?_
    (try rw [← Cls_def])
    refine mix_ch (i := 11) (fuel := 2) (by kernel_rfl) _ rfl (fun w1 hw1 => ?_)
    go_wp2_with (fail)
    refine Then.alloc hw1 ?_
    have hwa := hw1
    obtain ⟨wa, rfl⟩ : ∃ wo : World, wo = w1 := ⟨_, rfl⟩
    refine mix_end [12, 13] (by kernel_rfl) (fun w1 hw1 => ?_)
    simp only [opsAt, List.map_cons, List.map_nil, List.toList_toArray, List.getD_cons_succ, List.getD_cons_zero]
    have hba : Below wr.heap.size wr wa := hwa.below
    have hsza : wr.heap.size ≤ wa.heap.size := hba.size
    have hbw : Below wr.heap.size wr w1 := below_ext (hba.alloc (by omega) _) hw1.below
    have hG := (IsBlk.new wa _ _).ext hw1.below
    have hszw : wr.heap.size ≤ w1.heap.size := hbw.size
    refine push_at w.heap.size rfl _ _ 43 5 (.int .u8 0) 1 rfl Tryd.underlying43 (by kernel_rfl) rfl (by decide) _ (2 * k) _ (own_ext HO.out hbw) wa.heap.size 2 [_, _] hG rfl rfl rfl (by simp [Value.oneCell']) (by omega) (by omega) ?_
    intro v1 w3 hown3 hg3
    have hob : ∀ j, Value.ownBlock _ = some j → w.heap.size ≤ j := fun j hj => (HO.out.lt j hj).1
    have hown4 : w3.ownsRow w.heap.size 5 1 v1 (2 * (k + 1)) (u8s (hexL (l.take (k + 1)))) := by
      rw [← HST.out]
      exact hown3
    clear hown3
    go_wp2
    refine Calm.normal ?_
    go_wp2
    go_roundw
    case rel => exact ⟨k + 1, by omega, by go_num, hown4, (below_ext HW.out hbw).grown hg3 (by omega) (fun j hj => hob j hj)⟩
    case measure => simp [intOf]; omega
  · rw [show (k : Int) = (s.size : Int) by omega]
    obtain rfl : k = s.size := by omega
    have hown := HO.out
    rw [← HN.out, List.take_length] at hown
    have hcv := run_string_own (P := Tryd.prog) (w := wr) 43 5 9 Tryd.underlying43 Tryd.underlying5 Tryd.underlying9 hown
    clear hown HO hlt hk
    go_wp2
    go_ret
    exact ⟨rfl, HW.out⟩
end Go.Proofs.YtpnahmbhpbdpiaaDoor

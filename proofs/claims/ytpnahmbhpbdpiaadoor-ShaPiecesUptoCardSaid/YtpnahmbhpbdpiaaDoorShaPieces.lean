/- codicillaw01.ShaPieces: walk and law. Condition: the table of constants reads as the text lays it. -/
import Derived.Test.YtpnahmbhpbdpiaaDoorShaTop
import Derived.Test.YtpnahmbhpbdpiaaDoorShaGrows
import Derived.Test.YtpnahmbhpbdpiaaDoorShaTurns
import Derived.Deep.Cut
set_option linter.unusedVariables false
set_option linter.unusedSimpArgs false
namespace Go.Proofs.YtpnahmbhpbdpiaaDoor
open Go Go.RowKit Go.BigFrame
set_option maxRecDepth 100000

/-- The first k texts, joined. -/
def cat (ss : List ByteArray) (k : Nat) : List UInt8 := (ss.take k).flatMap fun s => s.data.toList
theorem cat_zero (ss : List ByteArray) : cat ss 0 = [] := rfl
theorem more_nil : more h0 [] = (h0, []) := more_short _ _ (by simp)
theorem cat_succ (ss : List ByteArray) (k : Nat) (h : k < ss.length) : cat ss (k + 1) = cat ss k ++ (ss[k]?.getD ByteArray.empty).data.toList := by
  unfold cat
  rw [List.take_succ_eq_append_getElem h, List.flatMap_append, List.getElem?_eq_getElem h]
  simp
theorem cat_le (ss : List ByteArray) : ∀ k m, k ≤ m → (cat ss k).length ≤ (cat ss m).length := by
  intro k m h
  unfold cat
  obtain ⟨d, rfl⟩ := Nat.le.dest h
  rw [List.take_add, List.flatMap_append, List.length_append]
  omega
theorem pieces_step (ss : List ByteArray) (k : Nat) (h : k < ss.length) (hm : (cat ss ss.length).length ≤ 1048576) :
    addT (more h0 (cat ss k)).1 ((cat ss k).length : Int) (bs (more h0 (cat ss k)).2) (ss[k]?.getD ByteArray.empty) = (((more h0 (cat ss (k + 1))).1, ((cat ss (k + 1)).length : Int), bs (more h0 (cat ss (k + 1))).2), 0) := by
  have h1 := cat_le ss (k + 1) ss.length (by omega)
  have h2 : (cat ss (k + 1)).length = (cat ss k).length + (ss[k]?.getD ByteArray.empty).size := by rw [cat_succ ss k h, List.length_append, ba_size]
  rw [addT_ok, bs_toList, ← more_app, ← cat_succ ss k h, h2]
  · congr 2
  · rw [rightB_iff, bs_size, more_rest _ _ _ (Nat.le_refl _)]
    omega
  · omega
theorem pieces_end (l : List UInt8) (h : l.length ≤ 1048576) : endP (more h0 l).1 (l.length : Int) (bs (more h0 l).2) = (shaL l, 0) := endP_more l (by omega)
theorem shaL_length (l : List UInt8) : (shaL l).length = 32 := outB_any_length _ (more_length _ (more_length _ rfl _) _)

set_option maxHeartbeats 4000000 in
theorem pieces_any (p : Option Addr) (cap : Nat) (ss : List ByteArray) (w : World) (hK : Ks w) (hm : (cat ss ss.length).length ≤ 1048576) (hn : ss.length ≤ 1048576)
    (hp : ∀ k, k < ss.length → ∃ b o, p = some ⟨b, o, none⟩ ∧ b < w.heap.size ∧ w.cell? ⟨b, o + k, none⟩ = some (.string (ss[k]?.getD ByteArray.empty))) :
    Calls Tryd.prog 5 #[.slice p ss.length cap] w fun e' w' => e' = .returned (.bool true) ∧ Below w.heap.size w w' := by
  have HK := Lib.hid hK; clear hK
  have HP := Lib.hid hp; clear hp
  have HM := Lib.hid hm; clear hm
  obtain ⟨n, hnn⟩ : ∃ n, n = ss.length := ⟨_, rfl⟩
  rw [← hnn]
  rw [← hnn] at hn
  have HN := Lib.hid hnn; clear hnn
  go_enter Tryd.func5, Tryd.ntmps5
  go_wp2_with fail
  go_at_call 8
  refine (lives_any _ HK.out).mono ?_
  rintro e' w1 ⟨rfl, hb⟩
  have HW1 := Lib.hid hb; clear hb
  go_wp2_with fail
  go_at_call 17
  refine (start_any _).mono ?_
  rintro e' w2 ⟨rfl, hb⟩
  have HW2 := Lib.hid (below_ext HW1.out hb); clear hb
  have he : shaV h0 0 (bs []) = .agg #[.int .u32 0x6a09e667, .int .u32 0xbb67ae85, .int .u32 0x3c6ef372, .int .u32 0xa54ff53a, .int .u32 0x510e527f, .int .u32 0x9b05688c, .int .u32 0x1f83d9ab, .int .u32 0x5be0cd19, .int .u64 0, .string (bs [])] := rfl
  rw [he]
  clear he
  go_upto_region 4 with (fail)
  generalize hW3 : World.alloc _ _ = W3
  have hI : IsBlk W3 w2.heap.size #[.int .u32 0x6a09e667, .int .u32 0xbb67ae85, .int .u32 0x3c6ef372, .int .u32 0xa54ff53a, .int .u32 0x510e527f, .int .u32 0x9b05688c, .int .u32 0x1f83d9ab, .int .u32 0x5be0cd19, .int .u64 0, .string (bs [])] 29 := by rw [← hW3]; exact IsBlk.new _ _ _
  have hsz2 : w.heap.size ≤ w2.heap.size := HW2.out.size
  have hB : Below w.heap.size w W3 := by rw [← hW3]; exact HW2.out.alloc hsz2 _
  clear hW3
  have HI := Lib.hid hI; clear hI
  have HB := Lib.hid hB; clear hB HW2 HW1
  go_wp2_with fail
  go_loopw [18, 4] (fun i v wr => ∃ k : Nat, k ≤ n ∧ i = .int .i64 k ∧ v = .string (bs (cat ss k)) ∧ Below w.heap.size w wr ∧ ∃ a b c d e f g h' : Int, (more h0 (cat ss k)).1 = [a, b, c, d, e, f, g, h'] ∧ IsBlk wr w2.heap.size #[.int .u32 a, .int .u32 b, .int .u32 c, .int .u32 d, .int .u32 e, .int .u32 f, .int .u32 g, .int .u32 h', .int .u64 ((cat ss k).length : Int), .string (bs (more h0 (cat ss k)).2)] 29) (fun i _ _ => n - (intOf i).toNat)
  case atStart => exact ⟨0, by omega, rfl, rfl, HB.out, 0x6a09e667, 0xbb67ae85, 0x3c6ef372, 0xa54ff53a, 0x510e527f, 0x9b05688c, 0x1f83d9ab, 0x5be0cd19, by rw [cat_zero, more_nil]; rfl, by rw [cat_zero, more_nil]; exact HI.out⟩
  case round =>
  clear HI HB
  obtain ⟨k, hk, rfl, rfl, hb, a, b, c, d, e, f, g, h', h8, hblk⟩ := hrel
  by_cases hlt : k < n
  · obtain ⟨bb, oo, rfl, hbb, hcell⟩ := HP.out k (by rw [← HN.out]; exact hlt)
    have hcell2 : wr.cell? ⟨bb, oo + k, none⟩ = some (.string (ss[k]?.getD ByteArray.empty)) := by rw [hb.cell hbb]; exact hcell
    clear hcell
    have hstep := pieces_step ss k (by rw [← HN.out]; exact hlt) HM.out
    have hl1 := cat_succ ss k (by rw [← HN.out]; exact hlt)
    have hl2 := cat_le ss (k + 1) ss.length (by rw [← HN.out]; omega)
    have hm := HM.out
    obtain ⟨s, hs⟩ : ∃ s, s = ss[k]?.getD ByteArray.empty := ⟨_, rfl⟩
    rw [← hs] at hcell2 hstep hl1
    have HS := Lib.hid hs; clear hs
    obtain ⟨L, hL⟩ : ∃ L : Nat, L = (cat ss k).length := ⟨_, rfl⟩
    have hL1 : (cat ss (k + 1)).length = L + s.size := by rw [hl1, List.length_append, ← hL, ba_size]
    rw [h8, ← hL, hL1] at hstep
    rw [← hL] at hblk
    have hLs : L + s.size ≤ 1048576 := by omega
    have hbs : (bs (cat ss k)).size = L := by rw [bs_size, hL]
    clear hm hl2
    have HL := Lib.hid hL; clear hL
    have HL1 := Lib.hid hL1; clear hL1
    have HC1 := Lib.hid hl1; clear hl1
    obtain ⟨a1, b1, c1, d1, e1, f1, g1, h1, h81⟩ := of_eight (more_length h0 rfl (cat ss (k + 1)))
    rw [h81] at hstep
    have HST := Lib.hid hstep; clear hstep
    have HBS := Lib.hid hbs; clear hbs
    obtain ⟨tx, htx⟩ : ∃ tx, tx = bs (cat ss k) := ⟨_, rfl⟩
    have htxs : tx.size = L := by rw [htx]; exact HBS.out
    rw [← htx]
    have HTX := Lib.hid htx; clear htx
    have hrz : (bs (more h0 (cat ss k)).2).size < 64 := by rw [bs_size]; exact more_two _ _
    obtain ⟨rr, hrr⟩ : ∃ rr, rr = bs (more h0 (cat ss k)).2 := ⟨_, rfl⟩
    rw [← hrr] at hrz hblk
    have HRR := Lib.hid hrr; clear hrr
    have H8 := Lib.hid h8; clear h8
    have H81 := Lib.hid h81; clear h81
    have hwa : w2.heap.size < wr.heap.size := hblk.lt
    obtain ⟨p0, p1, p2, p3, p4, p5, p6, p7, p8, p9⟩ := ten_cells hblk
    have H3 := Lib.hid hblk; clear hblk
    have HW := Lib.hid hb; clear hb
    go_wp2_with fail
    go_at_call 13
    have hst := HST.out
    rw [← HRR.out] at hst
    refine (add_T [a, b, c, d, e, f, g, h'] rfl (L : Int) rr s _ (HK.out.ext HW.out) (by omega) (by omega) (by omega) (hst.trans (by rw [Int.natCast_add]))).mono ?_
    clear hst
    rintro e' w3 ⟨rfl, hb⟩
    obtain ⟨r1, hr1⟩ : ∃ r1, r1 = bs (more h0 (cat ss (k + 1))).2 := ⟨_, rfl⟩
    rw [← hr1]
    have HR1 := Lib.hid hr1; clear hr1
    have hb3 := H3.out.ext hb
    have hw3 := below_ext HW.out hb
    have hs3 : wr.heap.size ≤ w3.heap.size := hb.size
    have hs4 : w.heap.size ≤ wr.heap.size := HW.out.size
    clear hb H3 p0 p1 p2 p3 p4 p5 p6 p7 p8 p9
    have H3 := Lib.hid hb3; clear hb3
    have HW3 := Lib.hid hw3; clear hw3
    go_upto_region 9 with (fail)
    generalize hW4 : World.alloc _ _ = W4
    have hI : IsBlk W4 w3.heap.size #[.int .u32 a1, .int .u32 b1, .int .u32 c1, .int .u32 d1, .int .u32 e1, .int .u32 f1, .int .u32 g1, .int .u32 h1, .int .u64 ((L : Int) + (s.size : Int)), .string r1] 29 := by rw [← hW4]; exact IsBlk.new _ _ _
    have hX : IsBlk W4 w2.heap.size #[.int .u32 a, .int .u32 b, .int .u32 c, .int .u32 d, .int .u32 e, .int .u32 f, .int .u32 g, .int .u32 h', .int .u64 (L : Int), .string rr] 29 := by rw [← hW4]; exact H3.out.alloc _
    have hB : Below w.heap.size w W4 := by rw [← hW4]; exact HW3.out.alloc (by omega) _
    have hlA : w2.heap.size < W4.heap.size := hX.lt
    have hlB : w3.heap.size < W4.heap.size := hI.lt
    clear hW4 H3 HW3
    obtain ⟨p0, p1, p2, p3, p4, p5, p6, p7, p8, p9⟩ := ten_cells hI
    obtain ⟨q0, q1, q2, q3, q4, q5, q6, q7, q8, q9⟩ := ten_cells hX
    have qf : ∀ j, W4.frozen? ⟨w2.heap.size, j, none⟩ = false := fun j => hX.frozen j
    have H3 := Lib.hid hX; clear hX
    have HI := Lib.hid hI; clear hI
    have HB := Lib.hid hB; clear hB
    go_upto_region 12 with (fail)
    generalize hW5 : World.setCell _ _ _ = W5
    have hX : IsBlk W5 w2.heap.size #[.int .u32 a1, .int .u32 b1, .int .u32 c1, .int .u32 d1, .int .u32 e1, .int .u32 f1, .int .u32 g1, .int .u32 h1, .int .u64 ((L : Int) + (s.size : Int)), .string r1] 29 := by rw [← hW5]; exact ten_set H3.out _ _ _ _ _ _ _ _ _ _
    have hB : Below w.heap.size w W5 := by rw [← hW5]; exact ten_below HB.out hsz2 _ _ _ _ _ _ _ _ _ _
    clear hW5 H3 HB p0 p1 p2 p3 p4 p5 p6 p7 p8 p9 q0 q1 q2 q3 q4 q5 q6 q7 q8 q9 qf
    have H3 := Lib.hid hX; clear hX
    have HB := Lib.hid hB; clear hB
    go_wp2_with fail
    go_roundw
    case rel =>
      refine ⟨k + 1, by omega, by go_num, ?_, HB.out, a1, b1, c1, d1, e1, f1, g1, h1, H81.out, ?_⟩
      · rw [HTX.out, HC1.out, ← bs_app, bs_self]
      · rw [HL1.out, ← HR1.out, Int.natCast_add]
        exact H3.out
    case measure => simp [intOf]; omega
  · rw [show (k : Int) = (n : Int) by omega]
    obtain rfl : k = n := by omega
    have hm := HM.out
    rw [← HN.out] at hm
    obtain ⟨l, hl⟩ : ∃ l, l = cat ss k := ⟨_, rfl⟩
    rw [← hl] at hm h8 hblk ⊢
    have hep := pieces_end l hm
    rw [h8] at hep
    have H8 := Lib.hid h8; clear h8
    have HEP := Lib.hid hep; clear hep
    have HLL := Lib.hid hl; clear hl
    obtain ⟨L, hL⟩ : ∃ L : Nat, L = l.length := ⟨_, rfl⟩
    have hLI : (L : Int) ≤ 1048576 := by omega
    have hbl : (bs l).size = L := by rw [bs_size, hL]
    rw [← hL] at hblk hm
    obtain ⟨tx, htx⟩ : ∃ tx, tx = bs l := ⟨_, rfl⟩
    have hts : tx.size ≤ 1048576 := by rw [htx]; omega
    rw [← htx]
    have htl : tx.data.toList = l := by rw [htx]; rfl
    have HTL := Lib.hid htl; clear htl htx hbl
    have HL := Lib.hid hL; clear hL
    have hrz : (bs (more h0 l).2).size < 64 := by rw [bs_size]; exact more_two _ _
    obtain ⟨rr, hrr⟩ : ∃ rr, rr = bs (more h0 l).2 := ⟨_, rfl⟩
    rw [← hrr] at hrz hblk
    have HRR := Lib.hid hrr; clear hrr
    have hd : (bs (shaL l)).size = 32 := by rw [bs_size]; exact shaL_length l
    obtain ⟨dg, hdg⟩ : ∃ dg, dg = bs (shaL l) := ⟨_, rfl⟩
    rw [← hdg] at hd
    have hdh : ((bs (hexL dg.data.toList)).size : Int) = 64 := by rw [hex_len, hd]; rfl
    obtain ⟨hx, hhx⟩ : ∃ hx, hx = bs (hexL dg.data.toList) := ⟨_, rfl⟩
    rw [← hhx] at hdh
    have HHX := Lib.hid hhx; clear hhx
    have HDG := Lib.hid hdg; clear hdg
    have hdI : (dg.size : Int) = 32 := by rw [hd]; rfl
    obtain ⟨p0, p1, p2, p3, p4, p5, p6, p7, p8, p9⟩ := ten_cells hblk
    have hlA : w2.heap.size < wr.heap.size := hblk.lt
    have H3 := Lib.hid hblk; clear hblk
    have HB := Lib.hid hb; clear hb
    have hend : ∀ W : World, Below w.heap.size w W → Calls Tryd.prog 15 #[.agg #[.int .u32 a, .int .u32 b, .int .u32 c, .int .u32 d, .int .u32 e, .int .u32 f, .int .u32 g, .int .u32 h', .int .u64 (L : Int), .string rr]] W fun e' w' => e' = .returned (.tuple #[.string dg, .int .i64 0]) ∧ Below W.heap.size W w' := by
      intro W hW
      have h1 := end_any [a, b, c, d, e, f, g, h'] rfl (L : Int) rr W (HK.out.ext hW) (by omega) (by omega) (by omega)
      have h2 := HEP.out
      rw [← HRR.out, ← HL.out] at h2
      rw [h2, ← HDG.out] at h1
      exact h1
    have HE := Lib.hid hend; clear hend
    go_wp2_with fail
    go_at_call 15
    refine (HE.out _ HB.out).mono ?_
    rintro e' w3 ⟨rfl, hb⟩
    have hb3 := H3.out.ext hb
    have hw3 := below_ext HB.out hb
    have hlB : w2.heap.size < w3.heap.size := hb3.lt
    clear hb H3 p0 p1 p2 p3 p4 p5 p6 p7 p8 p9
    obtain ⟨p0, p1, p2, p3, p4, p5, p6, p7, p8, p9⟩ := ten_cells hb3
    have HW3 := Lib.hid hw3; clear hw3
    go_wp2_with fail
    go_at_call 15
    refine (HE.out _ HW3.out).mono ?_
    rintro e' w4 ⟨rfl, hb⟩
    have hw4 := below_ext HW3.out hb
    clear hb p0 p1 p2 p3 p4 p5 p6 p7 p8 p9
    have HW4 := Lib.hid hw4; clear hw4
    go_wp2_with fail
    go_at_call 9
    refine (sum_any tx _ (HK.out.ext HW4.out) (by omega)).mono ?_
    rintro e' w5 ⟨he, hb⟩
    rw [HTL.out, ← HDG.out] at he
    subst he
    have hw5 := below_ext HW4.out hb
    clear hb
    have HW5 := Lib.hid hw5; clear hw5
    go_wp2_with fail
    go_at_call 11
    refine (hex_any dg _ (by omega)).mono ?_
    rintro e' w6 ⟨he, hb⟩
    rw [← HHX.out] at he
    subst he
    have hw6 := below_ext HW5.out hb
    clear hb
    have HW6 := Lib.hid hw6; clear hw6
    go_wp2_with fail
    go_ret
    exact ⟨rfl, HW6.out⟩
end Go.Proofs.YtpnahmbhpbdpiaaDoor

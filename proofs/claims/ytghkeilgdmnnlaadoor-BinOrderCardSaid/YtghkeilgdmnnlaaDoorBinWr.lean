/- bin's writer: buffer.text, writer.parts. No conditions. -/
import Derived.Test.YtghkeilgdmnnlaaDoorBinNum
import Derived.Test.YtghkeilgdmnnlaaDoorVal
import Derived.Test.YtghkeilgdmnnlaaDoorStr
import Derived.Lib.AppendStr
set_option linter.unusedVariables false
set_option linter.unusedSimpArgs false
namespace Go.Proofs.YtghkeilgdmnnlaaDoor
open Go Go.RowKit Go.BigFrame
set_option maxRecDepth 100000

theorem strCells_bs (l : List UInt8) : Lib.strCells (bs l) = u8s l := rfl
section
variable {P : Program} {ops : Array Oper} {rest : List Oper} {o : Oper} {a : Act} {Q : Exit → Act → World → Prop}
/-- append of a text's bytes. -/
theorem push_str {W : World} (base : Nat) (hgd : o.guard = none) (s x : Operand) (t u e : TypeId)
    (ho : o.op = .call { callee := .builtin .append, args := #[s, x], argTypes := #[t, u] })
    (ht : P.underlying t = some (.slice e)) (hu : P.underlying u = some .string) (hinfo : (P.info? e).map (fun i => (i.zero, i.size, i.bytes)) = some (some (.int .u8 0), 1, 1))
    (v : Value) (l m L : List UInt8) (hL : L = l ++ m) (HO : W.ownsRow base e 1 v l.length (u8s l)) (hs : a.eval s = v) (hx : a.eval x = .string (bs m))
    (hbase : base ≤ W.heap.size) (hl : l.length + m.length ≤ 140737488355328)
    (h : ∀ v1 w1, w1.ownsRow base e 1 v1 L.length (u8s L) → W.grownBy w1 v.ownBlock → wpList P ops Q rest (a.put o.dst v1) w1) :
    wpList P ops Q (o :: rest) a W := by
  subst hL
  obtain ⟨i0, hi, hzz⟩ := Option.map_eq_some_iff.1 hinfo
  simp only [Prod.mk.injEq] at hzz
  obtain ⟨hz0, hz1, hz2⟩ := hzz
  have hsz := bs_size m
  refine Lib.wpList_append_own_string W hgd s x t u ho base e i0 ht hu hi hz0 hz1 hz2 v l.length (u8s l) hs HO (bs m) hx (by unfold maxLen; omega) (by omega) hbase ?_
  intro v1 w1 hown hg _
  refine h v1 w1 ?_ hg
  rw [List.length_append, u8s_append, ← strCells_bs m, ← hsz]
  exact hown
end
section
variable {P : Program} {ops : Array Oper} {rest : List Oper} {o : Oper} {a : Act} {Q : Exit → Act → World → Prop}
/-- append of one byte that lies in a new block. -/
theorem push_byte {W : World} (base : Nat) (hgd : o.guard = none) (s x : Operand) (t e : TypeId)
    (ho : o.op = .call { callee := .builtin .append, args := #[s, x], argTypes := #[t, t] })
    (ht : P.underlying t = some (.slice e)) (hinfo : (P.info? e).map (fun i => (i.zero, i.size, i.bytes)) = some (some (.int .u8 0), 1, 1))
    (v : Value) (l L : List UInt8) (b : UInt8) (c : Int) (hc : c = (b.toNat : Int)) (hL : L = l ++ [b]) (g : Nat) (hG : IsBlk W g #[.int .u8 c] e) (HO : W.ownsRow base e 1 v l.length (u8s l)) (hs : a.eval s = v) (hx : a.eval x = .slice (some ⟨g, 0, none⟩) 1 1)
    (hbase : base ≤ W.heap.size) (hl : l.length + 1 ≤ 140737488355328)
    (h : ∀ v1 w1, w1.ownsRow base e 1 v1 L.length (u8s L) → W.grownBy w1 v.ownBlock → wpList P ops Q rest (a.put o.dst v1) w1) :
    wpList P ops Q (o :: rest) a W := by
  subst hL
  subst hc
  refine push_at base hgd s x t e (.int .u8 0) 1 ho ht hinfo rfl (by decide) v l.length (u8s l) HO g 1 [.int .u8 (b.toNat : Int)] hG rfl hs hx (by simp [Value.oneCell']) hbase (by omega) ?_
  intro v1 w1 h1 h2
  refine h v1 w1 ?_ h2
  rw [List.length_append, u8s_append]
  exact h1
end
/-- What a buffer holds behind a push: the cell's new slice is stored. -/
theorem Buf.put {B g : Nat} {t : TypeId} (ht : t ≠ 5) {v v1 : Value} {l m : List UInt8} {w w3 : World} (hBg : B ≤ g) (hblk : IsBlk w g #[v] t) (hown : w.ownsRow B 5 1 v l.length (u8s l)) (hown3 : w3.ownsRow B 5 1 v1 m.length (u8s m)) (hg : w.grownBy w3 v.ownBlock) (hB : B ≤ w.heap.size) :
    Buf B g t m (w3.setCell ⟨g, 0, none⟩ v1) ∧ Below B w (w3.setCell ⟨g, 0, none⟩ v1) ∧ KeptT g w (w3.setCell ⟨g, 0, none⟩ v1) := by
  have hb3 := blk_grown hblk hg (own_ne hown hblk ht)
  have hne3 := own_ne hown3 hb3 ht
  exact ⟨⟨hBg, v1, by simpa using hb3.set 0 v1, own_set hown3 hne3⟩, below_set (below_grown (Below.refl _ _) hg hB (fun k hk => (hown.lt k hk).1)) hBg, KeptT.put hown hg⟩
theorem Buf.sl {B g : Nat} {t : TypeId} {l : List UInt8} {w : World} (h : Buf B g t l w) : ∃ (p : Option Addr) (c : Nat), IsBlk w g #[.slice p l.length c] t ∧ w.ownsRow B 5 1 (.slice p l.length c) l.length (u8s l) := by
  obtain ⟨_, v, h2, h3⟩ := h
  rcases h3.2 with ⟨rfl, h0⟩ | ⟨g', cap, cur, rfl, _⟩
  · exact ⟨none, 0, by rw [h0]; exact h2, by rw [h0]; rw [h0] at h3; exact h3⟩
  · exact ⟨_, cap, h2, h3⟩
def bytesL (s : List UInt8) : List UInt8 := numL s.length ++ s
theorem bytesL_length (s : List UInt8) : (bytesL s).length ≤ s.length + 10 := by
  have := numL_length s.length
  rw [bytesL, List.length_append]
  omega
set_option maxHeartbeats 1000000 in
theorem buffer_text_any (B g : Nat) (t : TypeId) (ht : t ≠ 5) (l s : List UInt8) (w : World) (hB : Buf B g t l w) (hBw : B ≤ w.heap.size) (hl : l.length + s.length + 32 ≤ 140737488355328) :
    Calls Tryd.prog 41 #[.pointer (some ⟨g, 0, none⟩), .string (bs s)] w fun e' w' => e' = .returned (.tuple #[]) ∧ Buf B g t (l ++ bytesL s) w' ∧ Below B w w' ∧ KeptT g w w' := by
  have hsz := bs_size s
  have HB := Lib.hid hB; clear hB
  have hsl : s.length < 18446744073709551616 := by omega
  have hll : l.length ≤ 140737488355296 := by omega
  go_enter Tryd.func41, Tryd.ntmps41
  go_wp2_with fail
  go_at_call 29
  refine (buffer_number_any B g t ht l s.length w HB.out hBw (by omega) hsl).mono ?_
  rintro e' w1 ⟨rfl, hb1, hbw, hkt⟩
  have HKT := Lib.hid hkt; clear hkt
  have hnl := numL_length s.length
  obtain ⟨L1, hL1⟩ : ∃ L1, L1 = l ++ numL s.length := ⟨_, rfl⟩
  obtain ⟨L2, hL2⟩ : ∃ L2, L2 = L1 ++ s := ⟨_, rfl⟩
  have hlen : L1.length ≤ l.length + 10 := by rw [hL1, List.length_append]; omega
  have hfin : l ++ bytesL s = L2 := by rw [hL2, hL1, bytesL, List.append_assoc]
  rw [← hL1] at hb1
  have HL2 := Lib.hid hL2; clear hL2 hL1 hnl
  have HF := Lib.hid hfin; clear hfin
  have hszw := hbw.size
  obtain ⟨p, c, hblk, hown⟩ := hb1.sl
  have hBg := hb1.1
  have c0 : w1.cell? ⟨g, 0, none⟩ = some (.slice p L1.length c) := hblk.cell rfl
  have HBW := Lib.hid hbw; clear hbw hb1
  have HBK := Lib.hid hblk; clear hblk
  have HO := Lib.hid hown; clear hown
  go_wp2_with (at_builtin; refine push_str B rfl _ _ 45 9 5 rfl Tryd.underlying45 Tryd.underlying9 (by kernel_rfl) _ L1 s L2 HL2.out HO.out rfl rfl (by omega) (by omega) ?_)
  intro v1 w3 hown3 hg3
  have hput := Buf.put ht hBg HBK.out HO.out hown3 hg3 (by omega)
  have hb3 := blk_grown HBK.out hg3 (own_ne HO.out HBK.out ht)
  have f0 : w3.frozen? ⟨g, 0, none⟩ = false := hb3.frozen 0
  have d0 : w3.cell? ⟨g, 0, none⟩ = some (.slice p L1.length c) := hb3.cell rfl
  have HP := Lib.hid hput; clear hput hb3 hg3
  have hv1 : ∃ p1 c1, v1 = .slice p1 L2.length c1 := by
    rcases hown3.2 with ⟨rfl, h0⟩ | ⟨g', cap, cur, rfl, _⟩
    · exact ⟨none, 0, by rw [h0]⟩
    · exact ⟨_, _, rfl⟩
  obtain ⟨p1, c1, rfl⟩ := hv1
  clear hown3
  go_wp2
  go_end0
  rw [HF.out]
  exact ⟨rfl, HP.out.1, Below.trans HBW.out (HP.out.2.1.mono (by omega)), HKT.out.trans HP.out.2.2⟩
/-- Parts' texts, one behind another. -/
def catN (ts : Nat → List UInt8) : Nat → List UInt8
  | 0 => []
  | i + 1 => catN ts i ++ ts i
theorem catN_le (ts : Nat → List UInt8) {i n : Nat} (h : i < n) : (catN ts i).length + (ts i).length ≤ (catN ts n).length := by
  induction n with
  | zero => omega
  | succ n ih =>
    rw [catN, List.length_append]
    by_cases hi : i = n
    · subst hi; omega
    · have := ih (by omega); omega
set_option maxHeartbeats 1000000 in
theorem parts1_any (B g : Nat) (l : List UInt8) (w : World) (hB : Buf B g 49 l w) (hBw : B ≤ w.heap.size) (tag : UInt8) (tagI : Int) (htag : tagI = (tag.toNat : Int)) (n : Nat) (hn : n ≤ 1073741824) (ts : Nat → List UInt8) (c1 c2 : Value)
    (hl : l.length + (tag :: (numL n ++ catN ts n)).length + 64 ≤ 140737488355328)
    (hone : ∀ (i : Nat) (l' : List UInt8) (wx : World), i < n → Buf B g 49 l' wx → Below B w wx → KeptT g w wx → l'.length + (ts i).length + 64 ≤ 140737488355328 →
      Calls Tryd.prog 43 #[.int .i64 (i : Int), c1, c2] wx fun e' w' => e' = .returned (.tuple #[]) ∧ Buf B g 49 (l' ++ ts i) w' ∧ Below B wx w' ∧ KeptT g wx w') :
    Calls Tryd.prog 42 #[.pointer (some ⟨g, 0, none⟩), .int .u8 tagI, .int .i64 (n : Int), .func (.func 43) #[] #[c1, c2]] w fun e' w' => e' = .returned (.tuple #[]) ∧ Buf B g 49 (l ++ tag :: (numL n ++ catN ts n)) w' ∧ Below B w w' ∧ KeptT g w w' := by
  have HONE := Lib.hid hone; clear hone
  have HTAG := Lib.hid htag; clear htag
  obtain ⟨L1, hL1⟩ : ∃ L1, L1 = l ++ [tag] := ⟨_, rfl⟩
  obtain ⟨L2, hL2⟩ : ∃ L2, L2 = L1 ++ numL n := ⟨_, rfl⟩
  have hnl := numL_length n
  have hl1 : L1.length = l.length + 1 := by rw [hL1]; simp
  have hl2 : L2.length + (catN ts n).length + 64 ≤ 140737488355328 := by
    rw [hL2, List.length_append]
    simp only [List.length_cons, List.length_append] at hl
    omega
  have hl3 : l.length + 65 ≤ 140737488355328 := by
    simp only [List.length_cons, List.length_append] at hl
    omega
  clear hl
  have hfin : l ++ tag :: (numL n ++ catN ts n) = L2 ++ catN ts n := by rw [hL2, hL1]; simp
  rw [hfin]
  have HL1 := Lib.hid hL1; clear hL1 hfin
  have HL2 := Lib.hid hL2; clear hL2
  have hl1' : L1.length ≤ l.length + 1 := by omega
  clear hl1
  obtain ⟨p, c, hblk, hown⟩ := hB.sl
  have hBg := hB.1
  have c0 : w.cell? ⟨g, 0, none⟩ = some (.slice p l.length c) := hblk.cell rfl
  have hglt := hblk.lt
  clear hB
  have HBK := Lib.hid hblk; clear hblk
  have HO := Lib.hid hown; clear hown
  go_enter Tryd.func42, Tryd.ntmps42
  go_wp2_with (at_builtin; refine push_byte B rfl _ _ 45 5 rfl Tryd.underlying45 (by kernel_rfl) _ l L1 tag tagI HTAG.out HL1.out w.heap.size (IsBlk.new _ _ _) (own_alloc HO.out _) rfl rfl (by simp; omega) (by omega) ?_)
  intro v1 w3 hown3 hg3
  have hg4 := World.grownBy.trans (World.grownBy_alloc _ _ _) hg3
  have hput := Buf.put (t := 49) (by decide) hBg HBK.out HO.out hown3 hg4 (by omega)
  have hb3 := blk_grown HBK.out hg4 (own_ne HO.out HBK.out (by decide))
  have f0 : w3.frozen? ⟨g, 0, none⟩ = false := hb3.frozen 0
  have d0 : w3.cell? ⟨g, 0, none⟩ = some (.slice p l.length c) := hb3.cell rfl
  have hv1 : ∃ p1 c1, v1 = .slice p1 L1.length c1 := by
    rcases hown3.2 with ⟨rfl, h0⟩ | ⟨g', cap, cur, rfl, _⟩
    · exact ⟨none, 0, by rw [h0]⟩
    · exact ⟨_, _, rfl⟩
  obtain ⟨p1, k1, rfl⟩ := hv1
  have HP := Lib.hid hput; clear hput hb3 hg3 hg4 hown3 c0
  go_wp2_with fail
  go_at_call 29
  have hn64 : n < 18446744073709551616 := by omega
  have hbw1 := HP.out.2.1
  have hszw := hbw1.size
  refine (buffer_number_any B g 49 (by decide) L1 n _ HP.out.1 (by omega) (by omega) hn64).mono ?_
  rintro e' w4 ⟨rfl, hb4, hbw4, hkt4⟩
  have HKT4 := Lib.hid (HP.out.2.2.trans hkt4); clear hkt4
  have hbw := Below.trans hbw1 (hbw4.mono (by omega))
  rw [← HL2.out] at hb4
  clear hbw1 hbw4 d0 f0 hszw HP
  have HB4 := Lib.hid hb4; clear hb4
  have HBW4 := Lib.hid hbw; clear hbw
  go_wp2
  go_loopw [28] (fun i wr => ∃ j : Nat, i = .int .i64 j ∧ j ≤ n ∧ Buf B g 49 (L2 ++ catN ts j) wr ∧ Below B w wr ∧ KeptT g w wr) (fun i _ => n - (intOf i).toNat)
  case atStart => exact ⟨0, rfl, by omega, by rw [catN, List.append_nil]; exact HB4.out, HBW4.out, HKT4.out⟩
  case round =>
  clear HB4 HBW4 HKT4
  obtain ⟨j, rfl, hj, hbf, hbw, hkt⟩ := hrel
  have HKT := Lib.hid hkt; clear hkt
  have HBF := Lib.hid hbf; clear hbf
  have HBW := Lib.hid hbw; clear hbw
  by_cases hlt : j < n
  · have hcl := catN_le ts hlt
    have hap : (L2 ++ catN ts j).length = L2.length + (catN ts j).length := List.length_append
    go_wp2_with fail
    go_at_call 43
    refine (HONE.out j (L2 ++ catN ts j) _ hlt HBF.out HBW.out HKT.out (by omega)).mono ?_
    rintro e' w5 ⟨rfl, hb5, hbw5, hkt5⟩
    have HKT5 := Lib.hid (HKT.out.trans hkt5); clear hkt5
    have hszr := HBW.out.size
    have HB5 := Lib.hid hb5; clear hb5
    have HBW5 := Lib.hid (Below.trans HBW.out (hbw5.mono (Nat.le_refl _))); clear hbw5
    go_wp2
    go_roundw
    case rel => exact ⟨j + 1, by go_num, by omega, by rw [catN, ← List.append_assoc]; exact HB5.out, HBW5.out, HKT5.out⟩
    case measure => simp [intOf]; omega
  · obtain rfl : j = n := by omega
    go_wp2
    go_end0
    exact ⟨rfl, HBF.out, HBW.out, HKT.out⟩
set_option maxHeartbeats 1000000 in
theorem parts2_any (B g : Nat) (l : List UInt8) (w : World) (hB : Buf B g 49 l w) (hBw : B ≤ w.heap.size) (tag : UInt8) (tagI : Int) (htag : tagI = (tag.toNat : Int)) (n : Nat) (hn : n ≤ 1073741824) (ts : Nat → List UInt8) (c1 c2 : Value)
    (hl : l.length + (tag :: (numL n ++ catN ts n)).length + 64 ≤ 140737488355328)
    (hone : ∀ (i : Nat) (l' : List UInt8) (wx : World), i < n → Buf B g 49 l' wx → Below B w wx → KeptT g w wx → l'.length + (ts i).length + 64 ≤ 140737488355328 →
      Calls Tryd.prog 44 #[.int .i64 (i : Int), c1, c2] wx fun e' w' => e' = .returned (.tuple #[]) ∧ Buf B g 49 (l' ++ ts i) w' ∧ Below B wx w' ∧ KeptT g wx w') :
    Calls Tryd.prog 42 #[.pointer (some ⟨g, 0, none⟩), .int .u8 tagI, .int .i64 (n : Int), .func (.func 44) #[] #[c1, c2]] w fun e' w' => e' = .returned (.tuple #[]) ∧ Buf B g 49 (l ++ tag :: (numL n ++ catN ts n)) w' ∧ Below B w w' ∧ KeptT g w w' := by
  have HONE := Lib.hid hone; clear hone
  have HTAG := Lib.hid htag; clear htag
  obtain ⟨L1, hL1⟩ : ∃ L1, L1 = l ++ [tag] := ⟨_, rfl⟩
  obtain ⟨L2, hL2⟩ : ∃ L2, L2 = L1 ++ numL n := ⟨_, rfl⟩
  have hnl := numL_length n
  have hl1 : L1.length = l.length + 1 := by rw [hL1]; simp
  have hl2 : L2.length + (catN ts n).length + 64 ≤ 140737488355328 := by
    rw [hL2, List.length_append]
    simp only [List.length_cons, List.length_append] at hl
    omega
  have hl3 : l.length + 65 ≤ 140737488355328 := by
    simp only [List.length_cons, List.length_append] at hl
    omega
  clear hl
  have hfin : l ++ tag :: (numL n ++ catN ts n) = L2 ++ catN ts n := by rw [hL2, hL1]; simp
  rw [hfin]
  have HL1 := Lib.hid hL1; clear hL1 hfin
  have HL2 := Lib.hid hL2; clear hL2
  have hl1' : L1.length ≤ l.length + 1 := by omega
  clear hl1
  obtain ⟨p, c, hblk, hown⟩ := hB.sl
  have hBg := hB.1
  have c0 : w.cell? ⟨g, 0, none⟩ = some (.slice p l.length c) := hblk.cell rfl
  have hglt := hblk.lt
  clear hB
  have HBK := Lib.hid hblk; clear hblk
  have HO := Lib.hid hown; clear hown
  go_enter Tryd.func42, Tryd.ntmps42
  go_wp2_with (at_builtin; refine push_byte B rfl _ _ 45 5 rfl Tryd.underlying45 (by kernel_rfl) _ l L1 tag tagI HTAG.out HL1.out w.heap.size (IsBlk.new _ _ _) (own_alloc HO.out _) rfl rfl (by simp; omega) (by omega) ?_)
  intro v1 w3 hown3 hg3
  have hg4 := World.grownBy.trans (World.grownBy_alloc _ _ _) hg3
  have hput := Buf.put (t := 49) (by decide) hBg HBK.out HO.out hown3 hg4 (by omega)
  have hb3 := blk_grown HBK.out hg4 (own_ne HO.out HBK.out (by decide))
  have f0 : w3.frozen? ⟨g, 0, none⟩ = false := hb3.frozen 0
  have d0 : w3.cell? ⟨g, 0, none⟩ = some (.slice p l.length c) := hb3.cell rfl
  have hv1 : ∃ p1 c1, v1 = .slice p1 L1.length c1 := by
    rcases hown3.2 with ⟨rfl, h0⟩ | ⟨g', cap, cur, rfl, _⟩
    · exact ⟨none, 0, by rw [h0]⟩
    · exact ⟨_, _, rfl⟩
  obtain ⟨p1, k1, rfl⟩ := hv1
  have HP := Lib.hid hput; clear hput hb3 hg3 hg4 hown3 c0
  go_wp2_with fail
  go_at_call 29
  have hn64 : n < 18446744073709551616 := by omega
  have hbw1 := HP.out.2.1
  have hszw := hbw1.size
  refine (buffer_number_any B g 49 (by decide) L1 n _ HP.out.1 (by omega) (by omega) hn64).mono ?_
  rintro e' w4 ⟨rfl, hb4, hbw4, hkt4⟩
  have HKT4 := Lib.hid (HP.out.2.2.trans hkt4); clear hkt4
  have hbw := Below.trans hbw1 (hbw4.mono (by omega))
  rw [← HL2.out] at hb4
  clear hbw1 hbw4 d0 f0 hszw HP
  have HB4 := Lib.hid hb4; clear hb4
  have HBW4 := Lib.hid hbw; clear hbw
  go_wp2
  go_loopw [28] (fun i wr => ∃ j : Nat, i = .int .i64 j ∧ j ≤ n ∧ Buf B g 49 (L2 ++ catN ts j) wr ∧ Below B w wr ∧ KeptT g w wr) (fun i _ => n - (intOf i).toNat)
  case atStart => exact ⟨0, rfl, by omega, by rw [catN, List.append_nil]; exact HB4.out, HBW4.out, HKT4.out⟩
  case round =>
  clear HB4 HBW4 HKT4
  obtain ⟨j, rfl, hj, hbf, hbw, hkt⟩ := hrel
  have HKT := Lib.hid hkt; clear hkt
  have HBF := Lib.hid hbf; clear hbf
  have HBW := Lib.hid hbw; clear hbw
  by_cases hlt : j < n
  · have hcl := catN_le ts hlt
    have hap : (L2 ++ catN ts j).length = L2.length + (catN ts j).length := List.length_append
    go_wp2_with fail
    go_at_call 44
    refine (HONE.out j (L2 ++ catN ts j) _ hlt HBF.out HBW.out HKT.out (by omega)).mono ?_
    rintro e' w5 ⟨rfl, hb5, hbw5, hkt5⟩
    have HKT5 := Lib.hid (HKT.out.trans hkt5); clear hkt5
    have hszr := HBW.out.size
    have HB5 := Lib.hid hb5; clear hb5
    have HBW5 := Lib.hid (Below.trans HBW.out (hbw5.mono (Nat.le_refl _))); clear hbw5
    go_wp2
    go_roundw
    case rel => exact ⟨j + 1, by go_num, by omega, by rw [catN, ← List.append_assoc]; exact HB5.out, HBW5.out, HKT5.out⟩
    case measure => simp [intOf]; omega
  · obtain rfl : j = n := by omega
    go_wp2
    go_end0
    exact ⟨rfl, HBF.out, HBW.out, HKT.out⟩
end Go.Proofs.YtghkeilgdmnnlaaDoor

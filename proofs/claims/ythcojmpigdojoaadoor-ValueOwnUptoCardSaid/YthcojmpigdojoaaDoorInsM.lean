/- slices.Insert of one field into the midst of a row that the call owns. Conditions: at most 2^30 fields. -/
import Derived.Test.YthcojmpigdojoaaDoorIns
import Derived.Test.YthcojmpigdojoaaDoorMixB
import Derived.Lib.Overlaps
import Derived.Lib.AppendZerosOnto
import Derived.Laws.CopyOwn
set_option linter.unusedVariables false
set_option linter.unusedSimpArgs false
namespace Go.Proofs.YthcojmpigdojoaaDoor
open Go Go.RowKit Go.BigFrame
set_option maxRecDepth 100000

section
variable {P : Program}
theorem run_copy_rowN (w : World) (dT sT ty elem : TypeId) (g o dLen dCap : Nat) (a : Addr) (sLen sCap : Nat) (cur : Array Value) (t : TypeId) (cs : List Value) (sz : Nat)
    (hu : P.underlying dT = some (.slice elem)) (hs : (P.info? elem).map (·.size) = some sz)
    (hg : w.heap[g]? = some (.cells cur t (0, 0))) (hn : cs.length = Nat.min sLen dLen * sz)
    (hsrc : ∀ j v, cs[j]? = some v → w.cell? (a.add j) = some v) (hfit : o + cs.length ≤ cur.size) (h1 : ∀ v ∈ cs, v.oneCell' = true) :
    (Builtin.copy_ #[dT, sT] ty #[.slice (some ⟨g, o, none⟩) dLen dCap, .slice (some a) sLen sCap]).run P w =
      .ok (goInt (Nat.min sLen dLen)) (w.setRow g (cur.toList.take o ++ cs ++ cur.toList.drop (o + cs.length)).toArray) := by
  have hl := run_loadCells_list (P := P) w a cs hsrc
  have hst := run_storeCells_at P g o t cs 0 cur w hg (by simpa using hfit) h1
  cases hq : P.info? elem with
  | none => simp [hq] at hs
  | some i =>
    have hi : i.size = sz := by simpa [hq] using hs
    simp [Builtin.copy_, run_underlying hu, Builtin.lenOf, Builtin.firstCells, sizeOf, typeInfo, hq, hi, ← hn, hl, hst]
/-- copy of structs that lie in a row into a row that is known whole. -/
theorem wpList_copyN {w : World} {ops : Array Oper} {rest : List Oper} {o : Oper} {a : Act} {Q : Exit → Act → World → Prop} (hgd : o.guard = none) (d s : Operand) (dT sT : TypeId)
    (ho : o.op = .call { callee := .builtin .copy, args := #[d, s], argTypes := #[dT, sT] }) (elem : TypeId) (sz : Nat) (hu : P.underlying dT = some (.slice elem)) (hsz : (P.info? elem).map (·.size) = some sz)
    (g off dLen dCap : Nat) (ad : Addr) (sLen sCap : Nat) (hd : a.eval d = .slice (some ⟨g, off, none⟩) dLen dCap) (hs : a.eval s = .slice (some ad) sLen sCap)
    (cur : List Value) (t : TypeId) (hg : IsBlk w g cur.toArray t) (cs : List Value) (hn : cs.length = Nat.min sLen dLen * sz)
    (hsrc : ∀ j v, cs[j]? = some v → w.cell? (ad.add j) = some v) (hfit : off + cs.length ≤ cur.length) (h1 : ∀ v ∈ cs, v.oneCell' = true)
    (h : ∀ w', Hid (IsBlk w' g (splice cur off cs).toArray t) → Hid (w.grownBy w' (some g)) → wpList P ops Q rest (a.put o.dst (goInt (Nat.min sLen dLen))) w') : wpList P ops Q (o :: rest) a w := by
  refine wpList_plain hgd fun K hK => ?_
  have hrun := run_copy_rowN (P := P) w dT sT o.type elem g off dLen dCap ad sLen sCap cur.toArray t cs sz hu hsz hg hn hsrc (by simpa using hfit) h1
  unfold Oper.wp
  simp [execOp, ho, resolve, invoke, builtin, hd, hs, hrun, Result.andThen]
  refine hK _ _ (h _ (show _ = _ from ?_) (show World.grownBy _ _ _ from ⟨rfl, rfl, rfl, by simp, fun k _ hne => setRow_other w g k _ (fun e => hne (by rw [e]))⟩))
  simpa [splice] using setRow_heap w g _ _ t _ hg
end
theorem add_off (g o j : Nat) : (⟨g, o, none⟩ : Addr).add j = ⟨g, o + j, none⟩ := by unfold Addr.add; split <;> simp_all
theorem splice_shift {A M pad cs : List Value} {a m k : Nat} (ha : A.length = a) (hm : M.length = m) (hk : cs.length = k) (hp : k ≤ pad.length) : splice (splice (A ++ M ++ pad) (a + k) M) a cs = A ++ cs ++ M ++ pad.drop k := by
  subst ha hm hk
  unfold splice
  have e0 : (A ++ M ++ pad).drop (A.length + cs.length + M.length) = pad.drop cs.length := by
    rw [List.drop_append, List.drop_eq_nil_of_le (by simp), List.nil_append]
    congr 1
    simp only [List.length_append]
    omega
  rw [e0]
  have e1 : ((A ++ M ++ pad).take (A.length + cs.length)).length = A.length + cs.length := by simp; omega
  have e2 : ((A ++ M ++ pad).take (A.length + cs.length) ++ (M ++ pad.drop cs.length)).drop (A.length + cs.length) = M ++ pad.drop cs.length := by
    rw [List.drop_append, List.drop_eq_nil_of_le (by omega), e1]
    simp
  have e3 : ((A ++ M ++ pad).take (A.length + cs.length) ++ (M ++ pad.drop cs.length)).take A.length = A := by
    rw [List.take_append_of_le_length (by omega), List.take_take, Nat.min_eq_left (by omega), List.append_assoc, List.take_append_of_le_length (Nat.le_refl _), List.take_length]
  rw [e2, e3]
  simp [List.append_assoc]
theorem splice_two {A M Z cs : List Value} {a m k : Nat} (ha : A.length = a) (hm : M.length = m) (hk : cs.length = k) (hp : k + m ≤ Z.length) : splice (splice (A ++ Z) a cs) (a + k) M = A ++ cs ++ M ++ Z.drop (k + m) := by
  subst ha hm hk
  unfold splice
  have e1 : (A ++ Z).take A.length = A := by simp
  have e2 : (A ++ Z).drop (A.length + cs.length) = Z.drop cs.length := by
    rw [List.drop_append, List.drop_eq_nil_of_le (by omega), List.nil_append]
    congr 1
    omega
  rw [e1, e2]
  have e3 : (A ++ (cs ++ Z.drop cs.length)).take (A.length + cs.length) = A ++ cs := by
    rw [← List.append_assoc, List.take_append_of_le_length (by simp)]
    exact List.take_of_length_le (by simp)
  have e4 : (A ++ (cs ++ Z.drop cs.length)).drop (A.length + cs.length + M.length) = Z.drop (cs.length + M.length) := by
    rw [← List.append_assoc, List.drop_append, List.drop_eq_nil_of_le (by simp), List.nil_append, List.drop_drop]
    congr 1
    simp only [List.length_append]
    omega
  rw [e3, e4]
  simp [List.append_assoc]
theorem shape_blk {w : World} {g : Nat} {cs : Array Value} {t : TypeId} (h : IsBlk w g cs t) : w.shape? g = some (t, cs.size) := by
  unfold IsBlk at h
  simp [World.shape?, h]
/-- What the row is once the field lies in it. -/
theorem mid_full {w w' : World} {css : List (List Value)} {vs : List (List UInt8 × DVal)} {y : List UInt8 × DVal} {cs : List Value} {D : Nat → Prop} {B i g1 c1 : Nat} {rest : List Value} (hi : i ≤ vs.length) (h2 : css.length = vs.length) (hl7 : ∀ c ∈ css, c.length = 7)
    (h3 : ∀ j (h : j < vs.length) (h' : j < css.length), HasFld D w vs[j] css[j]) (hy : HasFld D w y cs) (hG : IsBlk w' g1 ((css.take i).flatten ++ cs ++ (css.drop i).flatten ++ rest).toArray 38) (hB : B ≤ g1) (hnc : vs.length + 1 ≤ c1) (hcm : c1 ≤ maxLen)
    (hsz : ((css.take i).flatten ++ cs ++ (css.drop i).flatten ++ rest).length = c1 * 7) (hDg : ∀ b, D b → b < w.heap.size → b ≠ g1) (hk : ∀ b, D b → b < w.heap.size → w'.heap[b]? = w.heap[b]?) :
    Full HasFld 7 B (fun b => D b ∧ b ≠ g1) 38 w' (.slice (some ⟨g1, 0, none⟩) (vs.length + 1) c1) (vs.take i ++ y :: vs.drop i) := by
  have hlen : (vs.take i ++ y :: vs.drop i).length = vs.length + 1 := by simp; omega
  have hcl := relF.len hy
  have hl' : ∀ c ∈ css.take i ++ cs :: css.drop i, c.length = 7 := fun c hc => by
    rcases List.mem_append.1 hc with h | h
    · exact hl7 c (List.mem_of_mem_take h)
    · rcases List.mem_cons.1 h with rfl | h
      · exact hcl
      · exact hl7 c (List.mem_of_mem_drop h)
  have hcl2 : (css.take i ++ cs :: css.drop i).length = vs.length + 1 := by simp; omega
  have hcss : (css.take i ++ cs :: css.drop i).flatten = (css.take i).flatten ++ cs ++ (css.drop i).flatten := by simp
  have hfl : ((css.take i ++ cs :: css.drop i).flatten).length = (vs.length + 1) * 7 := by
    have := flatten_take hl' _ (Nat.le_refl _)
    rw [List.take_length, hcl2] at this
    exact this
  have h3' : ∀ (k : Nat) (u : List UInt8 × DVal) (c : List Value), vs[k]? = some u → css[k]? = some c → HasFld D w u c := fun k u c hu hc => by
    obtain ⟨a1, rfl⟩ := List.getElem?_eq_some_iff.1 hu
    obtain ⟨a2, rfl⟩ := List.getElem?_eq_some_iff.1 hc
    exact h3 k a1 a2
  have parts : ∀ (j : Nat) (u : List UInt8 × DVal) (c : List Value), (vs.take i ++ y :: vs.drop i)[j]? = some u → (css.take i ++ cs :: css.drop i)[j]? = some c → HasFld D w u c := by
    intro j u c hu hc
    have l1 : (vs.take i).length = i := by simp; omega
    have l2 : (css.take i).length = i := by simp; omega
    rw [List.getElem?_append, l1] at hu
    rw [List.getElem?_append, l2] at hc
    by_cases hj : j < i
    · rw [if_pos hj, List.getElem?_take_of_lt hj] at hu hc
      exact h3' j u c hu hc
    · rw [if_neg hj] at hu hc
      cases hk : j - i with
      | zero => rw [hk] at hu hc; simp at hu hc; subst hu; subst hc; exact hy
      | succ k => rw [hk, List.getElem?_cons_succ, List.getElem?_drop] at hu hc; exact h3' _ u c hu hc
  refine ⟨css.take i ++ cs :: css.drop i, ?_, by rw [hcl2, hlen], fun j hj hj' => relF.kept (relF.lt (parts j _ _ (List.getElem?_eq_getElem hj) (List.getElem?_eq_getElem hj'))) (fun b hb => ⟨hb.1, hDg b hb.1 hb.2⟩) (fun b hb hlt => hk b hb.1 hlt)⟩
  rw [hlen]
  refine ⟨hfl, .inr ⟨g1, c1, _, rfl, hB, hG, hnc, hcm, by rw [List.size_toArray]; exact hsz, ?_⟩⟩
  rw [← hfl, hcss]
  exact List.take_left
set_option maxHeartbeats 4000000 in
theorem insert_mid (vs : List (List UInt8 × DVal)) (i : Nat) (hi : i < vs.length) (B : Nat) (v : Value) (y : List UInt8 × DVal) (g : Nat) (cs : List Value) (w : World) (D : Nat → Prop) (HA : Full HasFld 7 B D 38 w v vs) (hDv : ∀ b, D b → v.ownBlock ≠ some b) (hG : IsBlk w g cs.toArray 38) (hgv : v.ownBlock ≠ some g) (hy : HasFld D w y cs) (hB : B ≤ w.heap.size) (hn : vs.length ≤ 1073741824) :
    Calls Tryd.prog 33 #[v, .int .i64 (i : Int), .slice (some ⟨g, 0, none⟩) 1 1] w fun e' w' => ∃ g1 cap, e' = .returned (.slice (some ⟨g1, 0, none⟩) (vs.length + 1) cap) ∧ Full HasFld 7 B (fun b => D b ∧ b ≠ g1) 38 w' (.slice (some ⟨g1, 0, none⟩) (vs.length + 1) cap) (vs.take i ++ y :: vs.drop i) ∧ w.grownBy w' v.ownBlock ∧ B ≤ g1 ∧ g1 < w'.heap.size ∧ (v.ownBlock = some g1 ∨ g1 = w.heap.size) := by
  have HY := Lib.hid hy
  have HDV := Lib.hid hDv
  obtain ⟨css, h1, h2, h3⟩ := HA
  have hl7 : ∀ c ∈ css, c.length = 7 := fun c hc => by
    obtain ⟨i, hi, rfl⟩ := List.getElem_of_mem hc
    exact relF.len (h3 i (by omega) hi)
  rcases h1.2 with ⟨rfl, h0⟩ | ⟨b, c, cur, rfl, hBb, hb, hnc, hcm, hcs, hx⟩
  · omega
  obtain ⟨n, hnl⟩ : ∃ n, n = vs.length := ⟨_, rfl⟩
  have HN := Lib.hid hnl
  obtain ⟨A, hA⟩ : ∃ A, A = (css.take i).flatten := ⟨_, rfl⟩
  obtain ⟨M, hM⟩ : ∃ M, M = (css.drop i).flatten := ⟨_, rfl⟩
  have hAM : css.flatten = A ++ M := by rw [hA, hM, ← List.flatten_append, List.take_append_drop]
  have hAl : A.length = i * 7 := by rw [hA]; exact flatten_take hl7 i (by omega)
  have hfl : css.flatten.length = n * 7 := by
    have := flatten_take hl7 css.length (Nat.le_refl _)
    rw [List.take_length] at this
    rw [this, h2, hnl]
  have hMl : M.length = (n - i) * 7 := by
    rw [hAM, List.length_append, hAl] at hfl
    omega
  rw [← hnl] at hi hnc hn hx ⊢
  obtain ⟨pad, hpad⟩ : ∃ pad, pad = cur.toList.drop (n * 7) := ⟨_, rfl⟩
  have hcur : cur.toList = A ++ M ++ pad := by rw [← hAM, ← hx, hpad, List.take_append_drop]
  have hpl : pad.length = (c - n) * 7 := by
    rw [hpad, List.length_drop, show cur.toList.length = c * 7 by simpa using hcs]
    omega
  have hgl := hG.lt
  have hbb : IsBlk w b (A ++ M ++ pad).toArray 38 := by rw [← hcur]; exact hb
  have hbl := hbb.lt
  have hbg : g ≠ b := fun e => hgv (by rw [e]; rfl)
  have hcl : cs.length = 7 := relF.len hy
  have hncI : (n : Int) ≤ (c : Int) := by omega
  have hiI : (i : Int) ≤ (n : Int) := by omega
  have h1I : ¬ ((1 : Int) = 0) := by decide
  have hinI : ¬ ((i : Int) = (n : Int)) := by omega
  have hone : ∀ u ∈ M, u.oneCell' = true := fun u hu => by
    rw [hM] at hu
    obtain ⟨c, hc, huc⟩ := List.mem_flatten.1 hu
    obtain ⟨j, hj, rfl⟩ := List.getElem_of_mem (List.mem_of_mem_drop hc)
    exact relF.one (h3 j (by omega) hj) u huc
  have HONE := Lib.hid hone
  have HL7 := Lib.hid hl7
  have HBB := Lib.hid hbb
  have HG := Lib.hid hG
  have HH1 := Lib.hid h1
  have HH2 := Lib.hid h2
  have HH3 := Lib.hid h3
  have HAL := Lib.hid hAl
  have HML := Lib.hid hMl
  have HPL := Lib.hid hpl
  have HCL := Lib.hid hcl
  have HA := Lib.hid hA
  have HM := Lib.hid hM
  clear hone h1 h2 h3 hA hM hAM hAl hMl hfl hpad hcur hpl hbb hb hx hcs hG hy hDv hl7 hgv hcl hnl
  have hz7 : ∀ w, (Go.sizeOf 38).run Tryd.prog w = .ok 7 w := fun w => by
    have h : (Tryd.prog.info? 38).map (·.size) = some 7 := by kernel_rfl
    obtain ⟨i0, h0, h1⟩ := Option.map_eq_some_iff.1 h
    simp [Go.sizeOf, typeInfo, h0, h1]
  by_cases hroom : n + 1 ≤ c
  · have hr : ((n : Int) + 1 ≤ (c : Int)) := by omega
    have hr2 : ¬ ((c : Int) < (n : Int) + 1) := by omega
    go_enter Tryd.func33, Tryd.ntmps33
    have hov : ∀ lb cb, (callFunc 54 #[.slice (some ⟨g, 0, none⟩) 1 1, .slice (some ⟨b, (i + 1) * 7, none⟩) lb cb]).run Tryd.prog w = .ok (.value (.bool false)) w := fun lb cb => by
      rw [run_callFunc_extern Tryd.func54 (by kernel_rfl) (by kernel_rfl) (by kernel_rfl) (e := Extern.SlicesOverlaps.overlaps #[24, 24] #[4]) (by kernel_rfl),
        Lib.run_overlaps_apart w 24 4 38 Tryd.underlying24 7 hz7 ⟨g, 0, none⟩ ⟨b, (i + 1) * 7, none⟩ 1 1 lb cb hbg _ _ _ _ (shape_blk HG.out) (shape_blk HBB.out) (by simp [HAL.out, HML.out]; omega) (HG.out.frozen 0) (HG.out.frozen _)]
      rfl
    obtain ⟨L0, hL0⟩ : ∃ L0, L0 = A ++ M ++ pad := ⟨_, rfl⟩
    have HL0 := Lib.hid hL0
    have HB0 : Hid (IsBlk w b L0.toArray 38) := Lib.hid (by rw [hL0]; exact HBB.out)
    have HLL : Hid (L0.length = c * 7) := Lib.hid (by rw [hL0, List.length_append, List.length_append, HAL.out, HML.out, HPL.out]; omega)
    clear hL0
    go_wp2_with (simp only [hov])
    refine mixB_start [8] (Cls w) (by kernel_rfl) (Cls.of ((Below.refl _ _).drew)) (fun hCw => ?_)
    refine mixB_flt (by kernel_rfl) [0, 1, 2, 3, 4, 5, 6, 7] 1 _ _ hCw (by kernel_rfl) ?_
    simp only [opsAt, List.map_cons, List.map_nil, List.toList_toArray, List.getD_cons_succ, List.getD_cons_zero]
    unfold Cls
    repeat (go_big_quiet_step (fail))
    refine wpQuiet_nil ?_
    (try rw [← Cls_def])
    refine mixB_end [8] (by kernel_rfl) ?_
    simp only [opsAt, List.map_cons, List.map_nil, List.toList_toArray, List.getD_cons_succ, List.getD_cons_zero]
    refine wpList_copyN rfl _ _ 24 24 rfl 38 7 Tryd.underlying24 (by kernel_rfl) b ((i + 1) * 7) _ _ ⟨b, i * 7, none⟩ _ _ rfl rfl L0 38 HB0.out.drew M (by rw [HML.out]; congr 1; simp only [Nat.min_def]; split <;> omega) ?_ ?_ ?_ ?_
    · intro j u hj
      rw [add_off]
      refine HB0.out.drew.cell ?_
      have hjl := (List.getElem?_eq_some_iff.1 hj).1
      rw [List.getElem?_toArray, HL0.out, List.append_assoc, List.getElem?_append_right (by rw [HAL.out]; omega), HAL.out, Nat.add_sub_cancel_left, List.getElem?_append_left hjl]
      exact hj
    · rw [HLL.out, HML.out]; omega
    · exact HONE.out
    intro w1 HR1 HG1
    refine Calm.normal ?_
    have hsl : (splice L0 ((i + 1) * 7) M).length = c * 7 := by
      rw [length_splice _ _ _ (by rw [HLL.out, HML.out]; omega), HLL.out]
    have HSL := Lib.hid hsl
    have HGB : Hid (w.grownBy w1 (some b)) := Lib.hid (World.grownBy.trans (⟨rfl, rfl, rfl, Nat.le_refl _, fun _ _ _ => rfl⟩ : w.grownBy w.drew (some b)) HG1.out)
    have HG' := Lib.hid (blk_grown HG.out HGB.out (by intro e; exact hbg (Option.some.inj e).symm))
    clear hsl HG1
    go_upto_region 16 with (fail)
    go_wp2_with (refine wpList_copyN rfl _ _ 24 24 rfl 38 7 Tryd.underlying24 (by kernel_rfl) b (i * 7) _ _ ⟨g, 0, none⟩ _ _ rfl rfl (splice L0 ((i + 1) * 7) M) 38 HR1.out cs (by rw [HCL.out, show Nat.min 1 (n + 1 - i) = 1 by simp only [Nat.min_def]; split <;> omega]) (fun j u hj => by rw [add_off, Nat.zero_add]; exact HG'.out.cell (by simpa using hj)) (by rw [HSL.out, HCL.out]; omega) (relF.one HY.out) ?_)
    intro w2 HR2 HG2
    go_wp2
    go_ret
    have hg2 := World.grownBy.trans HGB.out HG2.out
    have hr2 := HR2.out
    rw [HL0.out, show (i + 1) * 7 = i * 7 + 7 by omega, splice_shift HAL.out HML.out HCL.out (by rw [HPL.out]; omega), HA.out, HM.out] at hr2
    have hlt := hr2.lt
    have hN := HN.out
    refine ⟨b, c, rfl, ?_, hg2, hBb, hlt, .inl rfl⟩
    rw [hN]
    refine mid_full (by omega) HH2.out HL7.out HH3.out HY.out hr2 hBb (by omega) hcm ?_ (fun z hz _ e => HDV.out z hz (by rw [e]; rfl)) (fun z hz hlt => hg2.block z hlt (fun e => HDV.out z hz e.symm))
    have e1 := HAL.out
    have e2 := HML.out
    rw [HA.out] at e1
    rw [HM.out] at e2
    rw [List.length_append, List.length_append, List.length_append, e1, e2, HCL.out, List.length_drop, HPL.out]
    omega
  · have hr : (c : Int) < (n : Int) + 1 := by omega
    have hrz : ∃ G W1 Z, (∀ ty, (Builtin.append_ #[24, 3] ty #[.slice (some ⟨b, 0, none⟩) i c, .int .i64 ((n : Int) + 1 - (i : Int))]).run Tryd.prog w = .ok (.slice (some ⟨w.heap.size, 0, none⟩) (n + 1) G) W1) ∧ n + 1 ≤ G ∧ G ≤ maxLen ∧ IsBlk W1 w.heap.size (A ++ Z).toArray 38 ∧ (A ++ Z).length = G * 7 ∧ Below w.heap.size w W1 := by
      have hinfo : (Tryd.prog.info? 38).map (fun i => (i.zero, i.size, i.bytes)) = some (some (.agg #[.string ⟨#[]⟩, .int .u8 0, .bool false, .int .i64 0, .string ⟨#[]⟩, .slice none 0 0, .slice none 0 0]), 7, 96) := by kernel_rfl
      obtain ⟨i0, hi0, hzz⟩ := Option.map_eq_some_iff.1 hinfo
      simp only [Prod.mk.injEq] at hzz
      obtain ⟨hz0, hz1, hz2⟩ := hzz
      have hold : (Builtin.firstCells i0.size i (.slice (some ⟨b, 0, none⟩) i c)).run Tryd.prog w.drew = .ok A.toArray w.drew := by
        rw [hz1]
        refine run_firstCells_some w.drew 7 i ⟨b, 0, none⟩ i c A HAL.out (fun j u hj => ?_)
        rw [add_off, Nat.zero_add]
        refine HBB.out.drew.cell ?_
        rw [List.getElem?_toArray, List.append_assoc, List.getElem?_append_left (List.getElem?_eq_some_iff.1 hj).1]
        exact hj
      have hik : i + (n + 1 - i) = n + 1 := by omega
      have hkk : (n : Int) + 1 - (i : Int) = ((n + 1 - i : Nat) : Int) := by omega
      have h := fun ty => Lib.run_append_grow_zeros w 24 3 ty 38 i0 _ .i64 .i64 Tryd.underlying24 Tryd.underlying3 hi0 hz0 (some ⟨b, 0, none⟩) i c A hold (n + 1 - i) (by omega) (by omega) (by omega) (by omega) (by rw [hz2]; omega) (by rw [hz2, hik]; exact growslice_fits (by omega) (by omega))
      rw [hik, ← hkk] at h
      have hge := grownCap_ge w (n + 1) c 38
      refine ⟨_, _, (Builtin.zeroCells (Value.agg #[.string ⟨#[]⟩, .int .u8 0, .bool false, .int .i64 0, .string ⟨#[]⟩, .slice none 0 0, .slice none 0 0]).cells (n + 1 - i)).toList ++ (Builtin.zeroCells (Value.agg #[.string ⟨#[]⟩, .int .u8 0, .bool false, .int .i64 0, .string ⟨#[]⟩, .slice none 0 0, .slice none 0 0]).cells (grownCap w (n + 1) c 38 - (n + 1))).toList, h, hge, grownCap_le_maxLen w _ _ _ (by unfold maxLen; omega), ?_, ?_, (Below.refl _ _).drew.alloc (Nat.le_refl _) _⟩
      · have h := IsBlk.new w.drew (A.toArray ++ Builtin.zeroCells (Value.agg #[.string ⟨#[]⟩, .int .u8 0, .bool false, .int .i64 0, .string ⟨#[]⟩, .slice none 0 0, .slice none 0 0]).cells (n + 1 - i) ++ Builtin.zeroCells (Value.agg #[.string ⟨#[]⟩, .int .u8 0, .bool false, .int .i64 0, .string ⟨#[]⟩, .slice none 0 0, .slice none 0 0]).cells (grownCap w (n + 1) c 38 - (n + 1))) 38
        have e : ∀ (A : List Value) (x y : Array Value), (A ++ (x.toList ++ y.toList)).toArray = A.toArray ++ x ++ y := fun A x y => by simp
        rw [e]
        exact h
      · rw [List.length_append, List.length_append, HAL.out, Array.length_toList, Array.length_toList, size_zeroCells, size_zeroCells]
        show i * 7 + ((n + 1 - i) * 7 + (grownCap w (n + 1) c 38 - (n + 1)) * 7) = _
        omega
    obtain ⟨G, W1, Z, hrz, hG1, hG2, hGB, hGl, hb1⟩ := hrz
    have HRZ := Lib.hid hrz
    have HGB := Lib.hid hGB
    have HGL := Lib.hid hGl
    have HB1 := Lib.hid hb1
    clear hrz hGB hGl hb1
    go_enter Tryd.func33, Tryd.ntmps33
    obtain ⟨L1, hL1⟩ : ∃ L1, L1 = A ++ Z := ⟨_, rfl⟩
    rw [← hL1] at HGB HGL
    have HL1 := Lib.hid hL1
    clear hL1
    obtain ⟨r, hrr⟩ : ∃ r, r = w.heap.size := ⟨_, rfl⟩
    have HR := Lib.hid hrr
    rw [← hrr] at HRZ HGB
    have HGW := Lib.hid (HG.out.ext HB1.out)
    have HBW := Lib.hid (HBB.out.ext HB1.out)
    have hgr : g ≠ r := by omega
    have hbr : b ≠ r := by omega
    clear hrr
    have hZl : (Z.length : Int) = (G : Int) * 7 - (i : Int) * 7 := by
      have h1 := HGL.out
      rw [HL1.out, List.length_append, HAL.out] at h1
      omega
    have HZL := Lib.hid hZl
    clear hZl
    go_wp2_with (first | (at_builtin; refine Lib.wpList_append_run _ rfl _ _ _ _ rfl _ _ rfl rfl _ _ (HRZ.out _) ?_) | (refine wpList_copyN rfl _ _ 24 24 rfl 38 7 Tryd.underlying24 (by kernel_rfl) r (i * 7) _ _ ⟨g, 0, none⟩ _ _ rfl rfl L1 38 HGB.out cs (by rw [HCL.out, show Nat.min 1 (n + 1 - i) = 1 by simp only [Nat.min_def]; split <;> omega]) (fun j u hj => by rw [add_off, Nat.zero_add]; exact HGW.out.cell (by simpa using hj)) (by rw [HGL.out, HCL.out]; omega) (relF.one HY.out) ?_))
    intro w1 HR1 HG1
    have hsl : (splice L1 (i * 7) cs).length = G * 7 := by
      rw [length_splice _ _ _ (by rw [HGL.out, HCL.out]; omega), HGL.out]
    have HSL := Lib.hid hsl
    have HBW1 := Lib.hid (blk_grown HBW.out HG1.out (by intro e; exact hbr (Option.some.inj e).symm))
    clear hsl
    go_upto_region 11 with (fail)
    refine mixB_start [8] (Cls w1) (by kernel_rfl) (Cls.of ((Below.refl _ _).drew)) (fun hCw => ?_)
    refine mixB_flt (by kernel_rfl) [0, 1, 2, 3, 4, 5, 6, 7] 1 _ _ hCw (by kernel_rfl) ?_
    simp only [opsAt, List.map_cons, List.map_nil, List.toList_toArray, List.getD_cons_succ, List.getD_cons_zero]
    unfold Cls
    repeat (go_big_quiet_step (fail))
    refine wpQuiet_nil ?_
    (try rw [← Cls_def])
    refine mixB_end [8] (by kernel_rfl) ?_
    simp only [opsAt, List.map_cons, List.map_nil, List.toList_toArray, List.getD_cons_succ, List.getD_cons_zero]
    refine wpList_copyN rfl _ _ 24 24 rfl 38 7 Tryd.underlying24 (by kernel_rfl) r ((i + 1) * 7) _ _ ⟨b, i * 7, none⟩ _ _ rfl rfl (splice L1 (i * 7) cs) 38 HR1.out.drew M (by rw [HML.out]; congr 1; simp only [Nat.min_def]; split <;> omega) ?_ ?_ ?_ ?_
    · intro j u hj
      rw [add_off]
      refine HBW1.out.drew.cell ?_
      have hjl := (List.getElem?_eq_some_iff.1 hj).1
      rw [List.getElem?_toArray, List.append_assoc, List.getElem?_append_right (by rw [HAL.out]; omega), HAL.out, Nat.add_sub_cancel_left, List.getElem?_append_left hjl]
      exact hj
    · rw [HSL.out, HML.out]; omega
    · exact HONE.out
    intro w2 HR2 HG2
    refine Calm.normal ?_
    have hg2 : w1.grownBy w2 (some r) := World.grownBy.trans (⟨rfl, rfl, rfl, Nat.le_refl _, fun _ _ _ => rfl⟩ : w1.grownBy w1.drew (some r)) HG2.out
    have hg3 := World.grownBy.trans HG1.out hg2
    have hr2 := HR2.out
    rw [HL1.out, show (i + 1) * 7 = i * 7 + 7 by omega, splice_two HAL.out HML.out HCL.out (by have := HZL.out; omega), HA.out, HM.out] at hr2
    have hlt := hr2.lt
    have hN := HN.out
    have hbw : Below w.heap.size w w2 := below_grown HB1.out hg3 (HB1.out.size) (fun k hk => by have h := HR.out; have : k = r := (Option.some.inj hk).symm; omega)
    have hfin := mid_full (w := w) (w' := w2) (B := B) (g1 := r) (c1 := G) (y := y) (cs := cs) (D := D) (i := i) (by omega) HH2.out HL7.out HH3.out HY.out hr2 (by have := HR.out; omega) (by omega) hG2 ?_ (fun z hz hlt => by have := HR.out; omega) (fun z hz hlt => hbw.block z hlt)
    · rw [← hN] at hfin
      have HF := Lib.hid hfin
      have HBW2 := Lib.hid hbw
      have HLT := Lib.hid hlt
      clear hN hfin hbw hlt hr2 hg2 hg3 HG1 HG2 HR1 HR2 HBW1 HBB HG HBW HGW
      go_wp2
      go_ret
      refine ⟨r, G, rfl, HF.out, ⟨HBW2.out.os, HBW2.out.tape, HBW2.out.output, HBW2.out.size, fun k hk _ => HBW2.out.block k hk⟩, by have := HR.out; omega, HLT.out, .inr HR.out⟩
    · have e1 := HAL.out
      have e2 := HML.out
      rw [HA.out] at e1
      rw [HM.out] at e2
      have := HZL.out
      rw [List.length_append, List.length_append, List.length_append, e1, e2, HCL.out, List.length_drop]
      omega
end Go.Proofs.YthcojmpigdojoaaDoor

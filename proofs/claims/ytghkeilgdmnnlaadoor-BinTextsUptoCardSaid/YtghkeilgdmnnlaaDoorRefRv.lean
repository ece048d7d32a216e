/- codicilref03.value, Read. Condition: the text is no longer than 16384 bytes (value). -/
import Derived.Test.YtghkeilgdmnnlaaDoorRefRd
import Derived.Test.YtghkeilgdmnnlaaDoorAcc
set_option linter.unusedVariables false
set_option linter.unusedSimpArgs false
namespace Go.Proofs.YtghkeilgdmnnlaaDoor
open Go Go.RowKit Go.BigFrame
set_option maxRecDepth 100000

/-- What the reference's read of a value leaves. -/
def RfPost (w : World) (r : DVal × St) (e' : Ending) (w' : World) : Prop := ∃ (V : DVal) (cs : List Value) (rest : List UInt8) (ok : Bool), e' = .returned (.tuple #[.agg cs.toArray, .string (bs rest), .bool ok]) ∧ HasVal (fun b => w.heap.size ≤ b) w' V cs ∧ Below w.heap.size w w' ∧ r.2.2 = !ok ∧ (ok = true → V = r.1 ∧ rest = r.2.1)
def RfOk (k : Nat) : Prop := ∀ (s : List UInt8) (dI : Int) (w : World), dI = 11 - (k : Int) → s.length ≤ 16384 → Calls Tryd.prog 28 #[.string (bs s), .int .i64 dI] w (RfPost w (valueP k (s, false)))
/-- Results: a struct that lies in a block known whole, and two plain ones. -/
theorem results_ctt {P : Program} {fn : Func} {p u u2 : Tmp} {ty : TypeId} (h : fn.results = #[.cell p ty, .tmp u, .tmp u2]) {tmps : Array Value} {w : World} {g : Nat} {t : TypeId} {cs : Array Value} {d : TypeDesc}
    (hp : tmps.getD p undef = .pointer (some ⟨g, 0, none⟩)) (hg : IsBlk w g cs t) (hu : P.underlying ty = some d) (hd : (match d with | .struct _ | .array _ _ => true | _ => false) = true) (hi : (P.info? ty).map (·.size) = some cs.size) {v v2 : Value} (hv : tmps.getD u undef = v) (hv2 : tmps.getD u2 undef = v2) :
    (results fn tmps).run P w = .ok (.tuple #[.agg cs, v, v2]) w := by
  have hp' : tmps[p]?.getD undef = .pointer (some ⟨g, 0, none⟩) := by simpa using hp
  have hv' : tmps[u]?.getD undef = v := by simpa using hv
  have hv2' : tmps[u2]?.getD undef = v2 := by simpa using hv2
  simp [results, h, hp', hv', hv2', asAddr, run_loadVar_row w g t ty cs (0, 0) d hg hu hd hi]
theorem KeptG.set6 {g : Nat} {w : World} (c0 c1 c2 c3 c4 c5 : Value) : KeptG g w ((((((w.setCell ⟨g, 0, none⟩ c0).setCell ⟨g, 1, none⟩ c1).setCell ⟨g, 2, none⟩ c2).setCell ⟨g, 3, none⟩ c3).setCell ⟨g, 4, none⟩ c4).setCell ⟨g, 5, none⟩ c5) :=
  ⟨by simp, fun b _ hne => by
    have e : ∀ (W : World) (o : Nat) (u : Value), (W.setCell ⟨g, o, none⟩ u).heap[b]? = W.heap[b]? := fun W o u => Below.heap_setCell _ _ _ _ hne
    rw [e, e, e, e, e, e]⟩
theorem KeptG.drew {g : Nat} {w w' : World} (h : KeptG g w w') : KeptG g w w'.drew := h
theorem KeptG.set6d {g : Nat} {w : World} (c0 c1 c2 c3 c4 c5 : Value) : KeptG g w ((((((w.setCell ⟨g, 0, none⟩ c0).setCell ⟨g, 1, none⟩ c1).setCell ⟨g, 2, none⟩ c2).setCell ⟨g, 3, none⟩ c3).setCell ⟨g, 4, none⟩ c4).setCell ⟨g, 5, none⟩ c5).drew := (KeptG.set6 c0 c1 c2 c3 c4 c5).drew
theorem rf_ret {tmps : Array Value} {w w2 : World} {h : Nat} {r : DVal × St} {V : DVal} {rest : List UInt8} {ok : Bool} {cs : List Value} (hp : tmps.getD 4 undef = .pointer (some ⟨h, 0, none⟩)) (h5 : tmps.getD 5 undef = .string (bs rest)) (h6 : tmps.getD 6 undef = .bool ok)
    (hz : IsBlk w2 h cs.toArray 26) (hv : HasVal (fun b => w.heap.size ≤ b) w2 V cs) (hb : Below w.heap.size w w2) (hr : r.2.2 = !ok) (hr2 : ok = true → V = r.1 ∧ rest = r.2.1) :
    bodyPost Tryd.prog Tryd.f28 (RfPost w r) Exit.ret { tmps := tmps, defers := [] } w2 :=
  bodyPost_ret (v := .tuple #[.agg cs.toArray, .string (bs rest), .bool ok]) (results_ctt (p := 4) (u := 5) (u2 := 6) (ty := 26) Tryd.results28 hp hz Tryd.underlying26 rfl (by rw [List.size_toArray, hv.len]; kernel_rfl) h5 h6) rfl ⟨V, cs, rest, ok, rfl, hv, hb, hr, hr2⟩
theorem rf_fin {tmps : Array Value} {w w2 : World} {h : Nat} {r : DVal × St} {V : DVal} {rest : List UInt8} {ok : Bool} {a0 a1 a2 a3 a4 a5 c0 c1 c2 c3 c4 c5 : Value} (hp : tmps.getD 4 undef = .pointer (some ⟨h, 0, none⟩)) (h5 : tmps.getD 5 undef = .string (bs rest)) (h6 : tmps.getD 6 undef = .bool ok)
    (hz : IsBlk w2 h #[a0, a1, a2, a3, a4, a5] 26) (hb : Below w.heap.size w w2) (hh : w.heap.size ≤ h) (hv : ∀ w', (∀ b, b ≠ h → w'.heap[b]? = w2.heap[b]?) → HasVal (fun b => w.heap.size ≤ b) w' V [c0, c1, c2, c3, c4, c5]) (hr : r.2.2 = !ok) (hr2 : ok = true → V = r.1 ∧ rest = r.2.1) :
    bodyPost Tryd.prog Tryd.f28 (RfPost w r) Exit.ret { tmps := tmps, defers := [] }
      ((((((w2.setCell ⟨h, 0, none⟩ c0).setCell ⟨h, 1, none⟩ c1).setCell ⟨h, 2, none⟩ c2).setCell ⟨h, 3, none⟩ c3).setCell ⟨h, 4, none⟩ c4).setCell ⟨h, 5, none⟩ c5) := by
  refine rf_ret hp h5 h6 (cs := [c0, c1, c2, c3, c4, c5]) (set6 hz c0 c1 c2 c3 c4 c5) (hv _ (fun b hb => ?_)) (below6 hb hh c0 c1 c2 c3 c4 c5) hr hr2
  have e : ∀ (W : World) (o : Nat) (u : Value), (W.setCell ⟨h, o, none⟩ u).heap[b]? = W.heap[b]? := fun W o u => Below.heap_setCell _ _ _ _ hb
  rw [e, e, e, e, e, e]
theorem rf_finD {tmps : Array Value} {w w2 : World} {h : Nat} {r : DVal × St} {V : DVal} {rest : List UInt8} {ok : Bool} {a0 a1 a2 a3 a4 a5 c0 c1 c2 c3 c4 c5 : Value} (hp : tmps.getD 4 undef = .pointer (some ⟨h, 0, none⟩)) (h5 : tmps.getD 5 undef = .string (bs rest)) (h6 : tmps.getD 6 undef = .bool ok)
    (hz : IsBlk w2 h #[a0, a1, a2, a3, a4, a5] 26) (hb : Below w.heap.size w w2) (hh : w.heap.size ≤ h) (hv : ∀ w', (∀ b, b ≠ h → w'.heap[b]? = w2.heap[b]?) → HasVal (fun b => w.heap.size ≤ b) w' V [c0, c1, c2, c3, c4, c5]) (hr : r.2.2 = !ok) (hr2 : ok = true → V = r.1 ∧ rest = r.2.1) :
    bodyPost Tryd.prog Tryd.f28 (RfPost w r) Exit.ret { tmps := tmps, defers := [] }
      ((((((w2.setCell ⟨h, 0, none⟩ c0).setCell ⟨h, 1, none⟩ c1).setCell ⟨h, 2, none⟩ c2).setCell ⟨h, 3, none⟩ c3).setCell ⟨h, 4, none⟩ c4).setCell ⟨h, 5, none⟩ c5).drew := by
  have h1 := set6 hz c0 c1 c2 c3 c4 c5
  have h2 := below6 hb hh c0 c1 c2 c3 c4 c5
  have h3 : ∀ b, b ≠ h → ((((((w2.setCell ⟨h, 0, none⟩ c0).setCell ⟨h, 1, none⟩ c1).setCell ⟨h, 2, none⟩ c2).setCell ⟨h, 3, none⟩ c3).setCell ⟨h, 4, none⟩ c4).setCell ⟨h, 5, none⟩ c5).heap[b]? = w2.heap[b]? := fun b hb => by
    have e : ∀ (W : World) (o : Nat) (u : Value), (W.setCell ⟨h, o, none⟩ u).heap[b]? = W.heap[b]? := fun W o u => Below.heap_setCell _ _ _ _ hb
    rw [e, e, e, e, e, e]
  generalize ((((((w2.setCell ⟨h, 0, none⟩ c0).setCell ⟨h, 1, none⟩ c1).setCell ⟨h, 2, none⟩ c2).setCell ⟨h, 3, none⟩ c3).setCell ⟨h, 4, none⟩ c4).setCell ⟨h, 5, none⟩ c5) = W at h1 h2 h3 ⊢
  exact rf_ret hp h5 h6 (cs := [c0, c1, c2, c3, c4, c5]) h1.drew (hv W.drew h3) h2.drew hr hr2
theorem bytesP_len (s : List UInt8) : (bytesP s).1.length ≤ s.length := by
  unfold bytesP
  split
  · simp
  · simp only [takeP]
    split
    · simp
    · have := numP_len (s, false)
      simp only [List.length_take] at this ⊢
      omega
theorem bytesP_eq (s : List UInt8) : (takeP (numP (s, false)).1 (numP (s, false)).2).2.2 = !(bytesP s).2.2 ∧ ((bytesP s).2.2 = true → (bytesP s).1 = (takeP (numP (s, false)).1 (numP (s, false)).2).1 ∧ (bytesP s).2.1 = (takeP (numP (s, false)).1 (numP (s, false)).2).2.1) := by
  unfold bytesP
  split
  · rename_i h
    exact ⟨h, fun h => by cases h⟩
  · rename_i h
    exact ⟨by simpa using h, fun _ => ⟨rfl, rfl⟩⟩
theorem accL_val {S : Nat → Prop} {w : World} {B c : Nat} {p : Option Addr} {vs : List DVal} (h : Acc HasVal B 26 6 w (.slice p vs.length c) vs) (hS : ∀ b, B ≤ b → S b) (hl : vs.length ≤ 1073741824) :
    HasVal S w (.mk 5 false 0 [] vs []) [.int .u8 5, .bool false, .int .i64 0, .string (bs []), .slice p vs.length c, .slice none 0 0] := by
  obtain ⟨p', c', hpc, h1, h2, hcl⟩ := h.cells relV hS
  injection hpc with e1 _ e2
  subst e1
  subst e2
  refine hasVal_mk.2 ⟨p, c, none, 0, rfl, ⟨by decide, by decide, by decide, by simp, hl, by simp, h1, h2, by simp, by unfold maxLen; omega⟩, fun i hi => ?_, fun i hi => by simp at hi⟩
  obtain ⟨gg, cs, e1, e2, e3⟩ := hcl i hi
  exact ⟨gg, 0, cs, e1, e2, e3⟩
theorem accF_val {S : Nat → Prop} {w : World} {B c : Nat} {p : Option Addr} {vs : List (List UInt8 × DVal)} (h : Acc HasFld B 61 7 w (.slice p vs.length c) vs) (hS : ∀ b, B ≤ b → S b) (hl : vs.length ≤ 1073741824) :
    HasVal S w (.mk 6 false 0 [] [] vs) [.int .u8 6, .bool false, .int .i64 0, .string (bs []), .slice none 0 0, .slice p vs.length c] := by
  obtain ⟨p', c', hpc, h1, h2, hcl⟩ := h.cells relF hS
  injection hpc with e1 _ e2
  subst e1
  subst e2
  refine hasVal_mk.2 ⟨none, 0, p, c, rfl, ⟨by decide, by decide, by decide, by simp, by simp, hl, by simp, by unfold maxLen; omega, h1, h2⟩, fun i hi => by simp at hi, fun i hi => ?_⟩
  obtain ⟨gg, cs, e1, e2, cs', e3, e4, e5⟩ := hcl i hi
  subst e3
  exact ⟨gg, 0, cs', e1, ⟨e4, e2⟩, e5⟩
theorem bytesP_rest (s : List UInt8) : (bytesP s).2.2 = true → (bytesP s).1.length ≤ s.length ∧ (bytesP s).2.1.length ≤ s.length := by
  intro h
  refine ⟨bytesP_len s, ?_⟩
  rw [((bytesP_eq s).2 h).2]
  exact Nat.le_trans (takeP_len _ _) (numP_len (s, false))
theorem fieldP_some (f : St → DVal × St) {st x rest : List UInt8} (h : bytesP st = (x, rest, true)) : fieldP f (st, false) = ((x, (f (rest, false)).1), (f (rest, false)).2) := by
  have h1 := bytesP_eq st
  rw [h] at h1
  obtain ⟨h2, h3⟩ := h1
  obtain ⟨h4, h5⟩ := h3 rfl
  unfold fieldP
  generalize takeP (numP (st, false)).1 (numP (st, false)).2 = q at h2 h4 h5 ⊢
  obtain ⟨q1, q2, q3⟩ := q
  simp only [Bool.not_true] at h2 h4 h5
  subst h2 h4 h5
  rfl
theorem fieldP_none {k : Nat} {st : List UInt8} (h : (bytesP st).2.2 = false) : (fieldP (valueP k) (st, false)).2.2 = true := by
  have h1 := (bytesP_eq st).1
  rw [h] at h1
  unfold fieldP
  generalize takeP (numP (st, false)).1 (numP (st, false)).2 = q at h1 ⊢
  obtain ⟨q1, q2, q3⟩ := q
  simp only [Bool.not_false] at h1
  subst h1
  cases k <;> rfl
set_option maxHeartbeats 8000000 in
theorem rf_step (k : Nat) (ih : ∀ k', k = k' + 1 → RfOk k') (hk : k ≤ 11) : RfOk k := by
  intro s dI w hd hs
  have IH := Lib.hid ih; clear ih
  obtain ⟨R, hR⟩ : ∃ R, R = valueP k (s, false) := ⟨_, rfl⟩
  rw [← hR]
  cases s with
  | nil =>
    have hrb : R.2.2 = true := by rw [hR]; cases k <;> rfl
    have HRB := Lib.hid hrb
    clear hrb hR
    have he : ((bs []).toList == ([] : List UInt8)) = true := by rw [tl_bs]; rfl
    go_enter Tryd.func28, Tryd.ntmps28
    go_wp2
    exact rf_ret rfl rfl rfl (IsBlk.new _ _ _) (zero_has _ _) ((Below.refl _ _).alloc (Nat.le_refl _) _) HRB.out (fun h => by cases h)
  | cons b l =>
  have he : ((bs (b :: l)).toList == ([] : List UInt8)) = false := by rw [tl_bs]; rfl
  have hsz : (bs (b :: l)).size = l.length + 1 := by rw [bs_size]; rfl
  have hszl := bs_size l
  have hll : l.length ≤ 16383 := by rw [List.length_cons] at hs; omega
  have htl : (bs (b :: l)).extract 1 (l.length + 1) = bs l := by rw [bs_extract]; simp
  have hq256 : b.toNat < 256 := b.toNat_lt
  obtain ⟨Q, hQ⟩ : ∃ Q, Q = b.toNat := ⟨_, rfl⟩
  have hb0 : ∀ h, ((bs (b :: l))[0]'h).toNat = Q := fun _ => hQ.symm
  rw [← hQ] at hq256
  by_cases hf : 7 < Q ∨ k = 0
  · have hrb : R.2.2 = true := by
      rw [hR]
      rcases hf with hf | rfl
      · cases k with
        | zero => rfl
        | succ k =>
          have hn : ∀ c : UInt8, c.toNat ≤ 7 → ¬ b = c := fun c hc e => by subst e; omega
          rw [valueP, if_neg (by decide)]
          rw [if_neg (hn 0 (by decide)), if_neg (hn 1 (by decide)), if_neg (hn 2 (by decide)), if_neg (hn 3 (by decide)), if_neg (hn 4 (by decide)), if_neg (hn 5 (by decide)), if_neg (hn 6 (by decide)), if_neg (hn 7 (by decide))]
      · rfl
    have HRB := Lib.hid hrb
    have hf2 : (decide (7 < (Q : Int)) = true) ∨ (decide (7 < (Q : Int)) = false ∧ 10 < dI) := by
      by_cases h7 : 7 < Q
      · left; exact decide_eq_true (by omega)
      · right; exact ⟨decide_eq_false (by omega), by omega⟩
    clear hrb hR hf hd hk hQ
    rcases hf2 with hf2 | ⟨hf2, hf3⟩
    · go_enter Tryd.func28, Tryd.ntmps28
      go_wp2
      exact rf_ret rfl rfl rfl (IsBlk.new _ _ _) (zero_has _ _) ((Below.refl _ _).alloc (Nat.le_refl _) _) HRB.out (fun h => by cases h)
    · have hf4 : decide (10 < dI) = true := decide_eq_true hf3
      go_enter Tryd.func28, Tryd.ntmps28
      go_wp2
      exact rf_ret rfl rfl rfl (IsBlk.new _ _ _) (zero_has _ _) ((Below.refl _ _).alloc (Nat.le_refl _) _) HRB.out (fun h => by cases h)
  obtain ⟨k, rfl⟩ : ∃ k', k = k' + 1 := ⟨k - 1, by omega⟩
  have hIH := IH.out k rfl
  have IH2 := Lib.hid hIH
  clear hIH IH
  have hd7 : decide (7 < (Q : Int)) = false := decide_eq_false (by omega)
  have hd10 : decide (10 < dI) = false := decide_eq_false (by omega)
  have hdI10 : dI ≤ 10 := by omega
  have hdI0 : 0 ≤ dI := by omega
  have hdk : dI + 1 = 11 - (k : Int) := by omega
  have HDK := Lib.hid hdk
  have hq : Q = 0 ∨ Q = 1 ∨ Q = 2 ∨ Q = 3 ∨ Q = 4 ∨ Q = 5 ∨ Q = 6 ∨ Q = 7 := by omega
  rw [valueP, if_neg (by decide)] at hR
  have hbn : ∀ c : UInt8, Q = c.toNat → b = c := fun c h => UInt8.toNat_inj.1 (hQ.symm.trans h)
  clear hf hd hk hdk hq256 hQ
  rcases hq with hb | hb | hb | hb | hb | hb | hb | hb
  · obtain rfl := hbn 0 hb
    have HR : Hid (R = (.zero, (l, false))) := Lib.hid hR
    clear hR hbn
    subst hb
    go_enter Tryd.func28, Tryd.ntmps28
    go_wp2
    exact rf_ret rfl rfl rfl ((IsBlk.new _ _ _).alloc _) (zero_has _ _) (((Below.refl _ _).alloc (Nat.le_refl _) _).alloc (by simp) _) (by rw [HR.out]; rfl) (fun _ => by rw [HR.out]; exact ⟨rfl, rfl⟩)
  · obtain rfl := hbn 1 hb
    have HR : Hid (R = (.mk 1 false 0 [] [] [], (l, false))) := Lib.hid hR
    clear hR hbn
    subst hb
    go_enter Tryd.func28, Tryd.ntmps28
    go_wp2
    exact rf_ret rfl rfl rfl ((IsBlk.new _ _ _).alloc _) (flat_has _ _ 1 (by decide) false 0 (by decide) (by decide) [] (by decide)) (((Below.refl _ _).alloc (Nat.le_refl _) _).alloc (by simp) _) (by rw [HR.out]; rfl) (fun _ => by rw [HR.out]; exact ⟨rfl, rfl⟩)
  · obtain rfl := hbn 2 hb
    have HR : Hid (R = (.mk 1 true 0 [] [] [], (l, false))) := Lib.hid hR
    clear hR hbn
    subst hb
    go_enter Tryd.func28, Tryd.ntmps28
    go_wp2
    exact rf_ret rfl rfl rfl ((IsBlk.new _ _ _).alloc _) (flat_has _ _ 1 (by decide) true 0 (by decide) (by decide) [] (by decide)) (((Below.refl _ _).alloc (Nat.le_refl _) _).alloc (by simp) _) (by rw [HR.out]; rfl) (fun _ => by rw [HR.out]; exact ⟨rfl, rfl⟩)
  · obtain rfl := hbn 3 hb
    have HR : Hid (R = (.mk 2 false (zagN (numP (l, false)).1) [] [] [], (numP (l, false)).2)) := Lib.hid hR
    clear hR hbn
    subst hb
    go_enter Tryd.func28, Tryd.ntmps28
    go_upto_region 13 with (fail)
    generalize hW0 : World.alloc (World.alloc w _) _ = W0
    have hz0 : IsBlk W0 w.heap.size #[.int .u8 0, .bool false, .int .i64 0, .string (bs []), .slice none 0 0, .slice none 0 0] 26 := by rw [← hW0]; exact (IsBlk.new _ _ _).alloc _
    have hv0 : IsBlk W0 (w.heap.size + 1) #[.int .u8 0, .bool false, .int .i64 0, .string (bs []), .slice none 0 0, .slice none 0 0] 26 := by rw [← hW0]; exact IsBlk.new_at (by simp)
    have hbw0 : Below w.heap.size w W0 := by rw [← hW0]; exact ((Below.refl _ _).alloc (Nat.le_refl _) _).alloc (by simp) _
    clear hW0
    go_wp2_with fail
    go_at_call 17
    refine (ref_readNumber_any (bs l) _ (by omega)).mono ?_
    rw [bs_toList]
    rintro e' w1 ⟨hen, hb⟩
    have hz1 := hz0.ext hb
    have hv1 := hv0.ext hb
    have HBW := Lib.hid (hbw0.trans (hb.mono (by have := hz0.lt; omega)))
    have hlt1 := hz1.lt
    clear hb hz0 hv0 hbw0
    cases hn : readNum l with
    | none =>
      have HR2 : Hid (R.2.2 = true) := Lib.hid (by rw [HR.out]; simp [numP, hn])
      rw [hn] at hen
      clear HR hn
      subst hen
      simp only [rdP]
      have c0 := hv1.cell (i := 0) rfl
      have c1 := hv1.cell (i := 1) rfl
      have c2 := hv1.cell (i := 2) rfl
      have c3 := hv1.cell (i := 3) rfl
      have c4 := hv1.cell (i := 4) rfl
      have c5 := hv1.cell (i := 5) rfl
      have z0 := hz1.cell (i := 0) rfl
      have z1 := hz1.cell (i := 1) rfl
      have z2 := hz1.cell (i := 2) rfl
      have z3 := hz1.cell (i := 3) rfl
      have z4 := hz1.cell (i := 4) rfl
      have z5 := hz1.cell (i := 5) rfl
      have f0 := hz1.frozen 0
      have f1 := hz1.frozen 1
      have f2 := hz1.frozen 2
      have f3 := hz1.frozen 3
      have f4 := hz1.frozen 4
      have f5 := hz1.frozen 5
      have HZ1 := Lib.hid hz1
      clear hz1 hv1
      go_wp2
      exact rf_fin rfl rfl rfl HZ1.out HBW.out (Nat.le_refl _) (fun w' _ => zero_has _ w') (by rw [HR2.out]; rfl) (fun h => by cases h)
    | some p =>
      obtain ⟨v, c⟩ := p
      rw [hn] at hen
      subst hen
      obtain ⟨_, hc, hc1, hc10⟩ := readNum_some hn
      have hv64 := readNum_lt hn
      have hzr := zagN_range v hv64
      have HR2 : Hid (R = (.mk 2 false (zagN v) [] [] [], (l.drop c, false))) := Lib.hid (by rw [HR.out]; simp [numP, hn])
      clear HR hn hv1
      simp only [rdP]
      have he2 : (bs l).extract c l.length = bs (l.drop c) := by rw [bs_extract, List.take_length]
      have hcI : (c : Int) ≤ (l.length : Int) := by omega
      have hc0I : (0 : Int) ≤ (c : Int) := by omega
      have HZ1 := Lib.hid hz1
      clear hz1
      go_upto_region 16 with (fail)
      have z0 := HZ1.out.cell (i := 0) rfl
      have z1 := HZ1.out.cell (i := 1) rfl
      have z2 := HZ1.out.cell (i := 2) rfl
      have z3 := HZ1.out.cell (i := 3) rfl
      have z4 := HZ1.out.cell (i := 4) rfl
      have z5 := HZ1.out.cell (i := 5) rfl
      have f0 := HZ1.out.frozen 0
      have f1 := HZ1.out.frozen 1
      have f2 := HZ1.out.frozen 2
      have f3 := HZ1.out.frozen 3
      have f4 := HZ1.out.frozen 4
      have f5 := HZ1.out.frozen 5
      refine mixW_start [] (ClsG w.heap.size w1) (by kernel_rfl) (ClsG.drew w.heap.size w1) (fun hCw => ?_)
      refine mixW_flt (by kernel_rfl) [0, 3, 4, 5] 5 _ _ hCw (by kernel_rfl) ?_
      simp only [opsAt, List.map_cons, List.map_nil, List.toList_toArray, List.getD_cons_succ, List.getD_cons_zero]
      unfold ClsG
      repeat (go_big_quiet_step (fail))
      refine wpQuiet_nil ?_
      (try rw [← ClsG_def])
      refine mixW_ch (i := 1) (fuel := 4) (by kernel_rfl) _ rfl ?_
      go_wp2_with (go_at_call 51; refine (ref_zag_any v _ hv64).mono ?_; rintro e' w5 ⟨rfl, rfl⟩)
      refine ThenW.mk (hCw) (fun hCw => ?_)
      refine mixW_ch (i := 2) (fuel := 3) (by kernel_rfl) _ rfl ?_
      go_wp2_with (fail)
      refine ThenW.mk (hCw) (fun hCw => ?_)
      refine mixW_ch (i := 6) (fuel := 2) (by kernel_rfl) _ rfl ?_
      go_wp2_with (fail)
      refine ThenW.mk (.of (KeptG.set6d _ _ _ _ _ _)) (fun hCw => ?_)
      refine mixW_flt (by kernel_rfl) [7, 8] 0 _ _ hCw (by kernel_rfl) ?_
      simp only [opsAt, List.map_cons, List.map_nil, List.toList_toArray, List.getD_cons_succ, List.getD_cons_zero]
      unfold ClsG
      repeat (go_big_quiet_step (fail))
      refine wpQuiet_nil ?_
      (try rw [← ClsG_def])
      refine mixW_end [] (by kernel_rfl) ?_
      refine wpList_nil ?_
      refine Calm.normal ?_
      go_wp2
      exact rf_finD rfl rfl rfl HZ1.out HBW.out (Nat.le_refl _) (fun w' _ => flat_has _ w' 2 (by decide) false _ hzr.1 hzr.2 [] (by decide)) (by rw [HR2.out]; rfl) (fun _ => by rw [HR2.out]; exact ⟨rfl, rfl⟩)
  · obtain rfl := hbn 4 hb
    have HR : Hid (R = (.mk 3 false 0 (takeP (numP (l, false)).1 (numP (l, false)).2).1 [] [], (takeP (numP (l, false)).1 (numP (l, false)).2).2)) := Lib.hid hR
    clear hR hbn
    subst hb
    go_enter Tryd.func28, Tryd.ntmps28
    go_upto_region 19 with (fail)
    generalize hW0 : World.alloc (World.alloc w _) _ = W0
    have hz0 : IsBlk W0 w.heap.size #[.int .u8 0, .bool false, .int .i64 0, .string (bs []), .slice none 0 0, .slice none 0 0] 26 := by rw [← hW0]; exact (IsBlk.new _ _ _).alloc _
    have hbw0 : Below w.heap.size w W0 := by rw [← hW0]; exact ((Below.refl _ _).alloc (Nat.le_refl _) _).alloc (by simp) _
    clear hW0
    go_wp2_with fail
    go_at_call 52
    refine (ref_bytes2_any l _ (by omega)).mono ?_
    rintro e' w1 ⟨rfl, hb⟩
    have hz1 := hz0.ext hb
    have HBW := Lib.hid (hbw0.trans (hb.mono (by have := hz0.lt; omega)))
    clear hb hz0 hbw0
    have hxl : (bytesP l).1.length ≤ l.length := bytesP_len l
    have hbp := bytesP_eq l
    generalize bytesP l = xp at hxl hbp ⊢
    obtain ⟨x, rest, ok⟩ := xp
    simp only [] at hxl hbp ⊢
    have HR2 : Hid (R.2.2 = !ok ∧ (ok = true → .mk 3 false 0 x [] [] = R.1 ∧ rest = R.2.1)) := Lib.hid (by rw [HR.out]; exact ⟨hbp.1, fun h => ⟨by rw [(hbp.2 h).1], (hbp.2 h).2⟩⟩)
    have HX := Lib.hid hxl
    clear hxl hbp HR
    have z0 := hz1.cell (i := 0) rfl
    have z1 := hz1.cell (i := 1) rfl
    have z2 := hz1.cell (i := 2) rfl
    have z3 := hz1.cell (i := 3) rfl
    have z4 := hz1.cell (i := 4) rfl
    have z5 := hz1.cell (i := 5) rfl
    have f0 := hz1.frozen 0
    have f1 := hz1.frozen 1
    have f2 := hz1.frozen 2
    have f3 := hz1.frozen 3
    have f4 := hz1.frozen 4
    have f5 := hz1.frozen 5
    have HZ1 := Lib.hid hz1
    clear hz1
    go_wp2
    exact rf_fin rfl rfl rfl HZ1.out HBW.out (Nat.le_refl _) (fun w' _ => flat_has _ w' 3 (by decide) false 0 (by decide) (by decide) x (by have := HX.out; omega)) HR2.out.1 HR2.out.2
  · obtain rfl := hbn 5 hb
    have HR : Hid (R = (.mk 4 false 0 (takeP (numP (l, false)).1 (numP (l, false)).2).1 [] [], (takeP (numP (l, false)).1 (numP (l, false)).2).2)) := Lib.hid hR
    clear hR hbn
    subst hb
    go_enter Tryd.func28, Tryd.ntmps28
    go_upto_region 19 with (fail)
    generalize hW0 : World.alloc (World.alloc w _) _ = W0
    have hz0 : IsBlk W0 w.heap.size #[.int .u8 0, .bool false, .int .i64 0, .string (bs []), .slice none 0 0, .slice none 0 0] 26 := by rw [← hW0]; exact (IsBlk.new _ _ _).alloc _
    have hbw0 : Below w.heap.size w W0 := by rw [← hW0]; exact ((Below.refl _ _).alloc (Nat.le_refl _) _).alloc (by simp) _
    clear hW0
    go_wp2_with fail
    go_at_call 52
    refine (ref_bytes2_any l _ (by omega)).mono ?_
    rintro e' w1 ⟨rfl, hb⟩
    have hz1 := hz0.ext hb
    have HBW := Lib.hid (hbw0.trans (hb.mono (by have := hz0.lt; omega)))
    clear hb hz0 hbw0
    have hxl : (bytesP l).1.length ≤ l.length := bytesP_len l
    have hbp := bytesP_eq l
    generalize bytesP l = xp at hxl hbp ⊢
    obtain ⟨x, rest, ok⟩ := xp
    simp only [] at hxl hbp ⊢
    have HR2 : Hid (R.2.2 = !ok ∧ (ok = true → .mk 4 false 0 x [] [] = R.1 ∧ rest = R.2.1)) := Lib.hid (by rw [HR.out]; exact ⟨hbp.1, fun h => ⟨by rw [(hbp.2 h).1], (hbp.2 h).2⟩⟩)
    have HX := Lib.hid hxl
    clear hxl hbp HR
    have z0 := hz1.cell (i := 0) rfl
    have z1 := hz1.cell (i := 1) rfl
    have z2 := hz1.cell (i := 2) rfl
    have z3 := hz1.cell (i := 3) rfl
    have z4 := hz1.cell (i := 4) rfl
    have z5 := hz1.cell (i := 5) rfl
    have f0 := hz1.frozen 0
    have f1 := hz1.frozen 1
    have f2 := hz1.frozen 2
    have f3 := hz1.frozen 3
    have f4 := hz1.frozen 4
    have f5 := hz1.frozen 5
    have HZ1 := Lib.hid hz1
    clear hz1
    go_wp2
    exact rf_fin rfl rfl rfl HZ1.out HBW.out (Nat.le_refl _) (fun w' _ => flat_has _ w' 4 (by decide) false 0 (by decide) (by decide) x (by have := HX.out; omega)) HR2.out.1 HR2.out.2
  · obtain rfl := hbn 6 hb
    have HR : Hid (R = (.mk 5 false 0 [] (repN (valueP k) (manyP (l, false)).1 (manyP (l, false)).2).1 [], (repN (valueP k) (manyP (l, false)).1 (manyP (l, false)).2).2)) := Lib.hid hR
    clear hR hbn
    subst hb
    go_enter Tryd.func28, Tryd.ntmps28
    go_upto_region 21 with (fail)
    generalize hW0 : World.alloc (World.alloc w _) _ = W0
    have hz0 : IsBlk W0 w.heap.size #[.int .u8 0, .bool false, .int .i64 0, .string (bs []), .slice none 0 0, .slice none 0 0] 26 := by rw [← hW0]; exact (IsBlk.new _ _ _).alloc _
    have hv0 : IsBlk W0 (w.heap.size + 1) #[.int .u8 0, .bool false, .int .i64 0, .string (bs []), .slice none 0 0, .slice none 0 0] 26 := by rw [← hW0]; exact IsBlk.new_at (by simp)
    have hbw0 : Below w.heap.size w W0 := by rw [← hW0]; exact ((Below.refl _ _).alloc (Nat.le_refl _) _).alloc (by simp) _
    clear hW0
    go_wp2_with fail
    go_at_call 17
    refine (ref_readNumber_any (bs l) _ (by omega)).mono ?_
    rw [bs_toList]
    rintro e' w1 ⟨hen, hb⟩
    have hz1 := hz0.ext hb
    have hv1 := hv0.ext hb
    have HBW := Lib.hid (hbw0.trans (hb.mono (by have := hz0.lt; omega)))
    have hlt1 := hv1.lt
    clear hb hz0 hv0 hbw0
    cases hn : readNum l with
    | none =>
      have HR2 : Hid (R.2.2 = true) := Lib.hid (by rw [HR.out]; simp [manyP, numP, hn, repN_bad])
      rw [hn] at hen
      clear HR hn
      subst hen
      simp only [rdP]
      have c0 := hv1.cell (i := 0) rfl
      have c1 := hv1.cell (i := 1) rfl
      have c2 := hv1.cell (i := 2) rfl
      have c3 := hv1.cell (i := 3) rfl
      have c4 := hv1.cell (i := 4) rfl
      have c5 := hv1.cell (i := 5) rfl
      have z0 := hz1.cell (i := 0) rfl
      have z1 := hz1.cell (i := 1) rfl
      have z2 := hz1.cell (i := 2) rfl
      have z3 := hz1.cell (i := 3) rfl
      have z4 := hz1.cell (i := 4) rfl
      have z5 := hz1.cell (i := 5) rfl
      have f0 := hz1.frozen 0
      have f1 := hz1.frozen 1
      have f2 := hz1.frozen 2
      have f3 := hz1.frozen 3
      have f4 := hz1.frozen 4
      have f5 := hz1.frozen 5
      have HZ1 := Lib.hid hz1
      clear hz1 hv1
      go_wp2
      exact rf_fin rfl rfl rfl HZ1.out HBW.out (Nat.le_refl _) (fun w' _ => zero_has _ w') (by rw [HR2.out]; rfl) (fun h => by cases h)
    | some p =>
      obtain ⟨m, c⟩ := p
      rw [hn] at hen
      subst hen
      obtain ⟨_, hc, hc1, hc10⟩ := readNum_some hn
      have hm64 := readNum_lt hn
      simp only [rdP]
      by_cases hm : m ≤ 64
      case neg =>
        have HR2 : Hid (R.2.2 = true) := Lib.hid (by rw [HR.out]; simp [manyP, numP, hn, repN_bad, show 64 < m by omega])
        clear HR hn
        have c0 := hv1.cell (i := 0) rfl
        have c1 := hv1.cell (i := 1) rfl
        have c2 := hv1.cell (i := 2) rfl
        have c3 := hv1.cell (i := 3) rfl
        have c4 := hv1.cell (i := 4) rfl
        have c5 := hv1.cell (i := 5) rfl
        have z0 := hz1.cell (i := 0) rfl
        have z1 := hz1.cell (i := 1) rfl
        have z2 := hz1.cell (i := 2) rfl
        have z3 := hz1.cell (i := 3) rfl
        have z4 := hz1.cell (i := 4) rfl
        have z5 := hz1.cell (i := 5) rfl
        have f0 := hz1.frozen 0
        have f1 := hz1.frozen 1
        have f2 := hz1.frozen 2
        have f3 := hz1.frozen 3
        have f4 := hz1.frozen 4
        have f5 := hz1.frozen 5
        have HZ1 := Lib.hid hz1
        have hmI : (64 : Int) < (m : Int) := by omega
        clear hz1 hv1 hm
        go_wp2
        exact rf_fin rfl rfl rfl HZ1.out HBW.out (Nat.le_refl _) (fun w' _ => zero_has _ w') (by rw [HR2.out]; rfl) (fun h => by cases h)
      have HR2 : Hid (R = (.mk 5 false 0 [] ([] ++ (repN (valueP k) (m - 0) (l.drop c, false)).1) [], (repN (valueP k) (m - 0) (l.drop c, false)).2)) := Lib.hid (by rw [HR.out]; simp [manyP, numP, hn, show ¬ 64 < m by omega])
      clear HR hn
      have hmI : (m : Int) ≤ 64 := by omega
      have he2 : (bs l).extract c l.length = bs (l.drop c) := by rw [bs_extract, List.take_length]
      have hcI : (c : Int) ≤ (l.length : Int) := by omega
      have v0 := hv1.cell (i := 0) rfl
      have vf := hv1.frozen 0
      have HZ1 := Lib.hid hz1
      have HV1 := Lib.hid hv1
      clear hz1 hv1
      go_upto_block 1 with (fail)
      generalize hW2 : World.setCell w1 _ _ = W2
      have hv2 : IsBlk W2 (w.heap.size + 1) #[.int .u8 5, .bool false, .int .i64 0, .string (bs []), .slice none 0 0, .slice none 0 0] 26 := by rw [← hW2]; simpa using HV1.out.set 0 (.int .u8 5)
      have hz2 : IsBlk W2 w.heap.size #[.int .u8 0, .bool false, .int .i64 0, .string (bs []), .slice none 0 0, .slice none 0 0] 26 := by rw [← hW2]; exact HZ1.out.set_other (show w.heap.size + 1 ≠ w.heap.size by omega) _
      have hb2 : Below w.heap.size w W2 := by rw [← hW2]; exact below_set HBW.out (by omega)
      have HV2 := Lib.hid hv2
      have HZ2 := Lib.hid hz2
      have HB2 := Lib.hid hb2
      clear hW2 hv2 hz2 hb2 v0 vf HV1 HZ1 HBW he2 hlt1
      go_wp2
      go_loopw [18, 0] (fun i sv wr => ∃ (j : Nat) (vs : List DVal) (st : List UInt8) (lv : Value), i = .int .u64 j ∧ sv = .string (bs st) ∧ j ≤ m ∧ vs.length = j ∧ IsBlk wr (w.heap.size + 1) #[.int .u8 5, .bool false, .int .i64 0, .string (bs []), lv, .slice none 0 0] 26 ∧ Acc HasVal (w.heap.size + 2) 26 6 wr lv vs ∧ st.length ≤ 16384 ∧ IsBlk wr w.heap.size #[.int .u8 0, .bool false, .int .i64 0, .string (bs []), .slice none 0 0, .slice none 0 0] 26 ∧ Below w.heap.size w wr ∧ R = (.mk 5 false 0 [] (vs ++ (repN (valueP k) (m - j) (st, false)).1) [], (repN (valueP k) (m - j) (st, false)).2)) (fun i _ _ => m - (intOf i).toNat)
      case atStart => exact ⟨0, [], l.drop c, .slice none 0 0, rfl, rfl, by omega, rfl, HV2.out, Acc.nil _ _ _, by rw [List.length_drop]; omega, HZ2.out, HB2.out, HR2.out⟩
      case round =>
      clear HV2 HZ2 HB2 HR2
      obtain ⟨j, vs, st, lv, rfl, rfl, hjm, hvj, hv7, hacc, hsl, hz7, hb7, hRR⟩ := hrel
      have hst := bs_size st
      have hh7 := hv7.lt
      have hwr := hb7.size
      obtain ⟨p7, c7, hlv⟩ := hacc.slice
      subst hlv
      have hown := hacc.lt
      have HOW := Lib.hid hown
      have HV7 := Lib.hid hv7
      have HAC := Lib.hid hacc
      have HZ7 := Lib.hid hz7
      have HB7 := Lib.hid hb7
      have HVJ := Lib.hid hvj
      have hvl64 : vs.length ≤ 64 := by omega
      clear hown hv7 hacc hz7 hb7 hvj
      by_cases hlt : j < m
      · rw [show m - j = (m - (j + 1)) + 1 by omega, repN_more] at hRR
        obtain ⟨r5, hr5⟩ : ∃ r5, r5 = valueP k (st, false) := ⟨_, rfl⟩
        have hvl := valueP_len k (st, false)
        rw [← hr5] at hRR hvl
        have HRR := Lib.hid hRR
        have HR5 := Lib.hid hr5
        have HVL := Lib.hid hvl
        clear hRR hr5 hvl
        go_wp2_with fail
        go_at_call 28
        refine (IH2.out st (dI + 1) _ HDK.out (by omega)).mono ?_
        rintro e' w5 ⟨V5, cs5, rest5, ok5, rfl, hval, hbx, hok, hok2⟩
        rw [← HR5.out] at hok hok2
        obtain ⟨k1, b1, n1, s1, l1, f1⟩ := V5
        have hval2 := hval
        obtain ⟨pl1, cl1, pf1, cf1, rfl, hr1⟩ := hasVal_mk.1 hval2
        clear hval2 hr1
        have hac5 := HAC.out.kept relV (fun b hb hlt => hbx.block b hlt)
        have hv5 := HV7.out.ext hbx
        have hz5 := HZ7.out.ext hbx
        have hbw5 := HB7.out.trans (hbx.mono (by omega))
        have hs5 := hbx.size
        have HOK := Lib.hid hok
        have HOK2 := Lib.hid hok2
        clear hbx hok hok2 HR5
        go_upto_region 37 with (fail)
        generalize hW6 : World.alloc w5 _ = W6
        have hbA : Below w5.heap.size w5 W6 := by rw [← hW6]; exact (Below.refl _ _).alloc (Nat.le_refl _) _
        have hx6 : IsBlk W6 w5.heap.size #[.int .u8 (k1 : Int), .bool b1, .int .i64 n1, .string (bs s1), .slice pl1 l1.length cl1, .slice pf1 f1.length cf1] 26 := by rw [← hW6]; exact IsBlk.new _ _ _
        have hac6 := hac5.kept relV (fun b hb hlt => hbA.block b hlt)
        have hv6 := hv5.ext hbA
        have hz6 := hz5.ext hbA
        have hbw6 := hbw5.trans (hbA.mono (by omega))
        have hval6 := hval.ext hbA
        have hs6 := hx6.lt
        clear hW6 hbA hac5 hv5 hz5 hbw5 hval
        cases ok5
        · have HR3 : Hid (R.2.2 = true) := Lib.hid (by
            rw [HRR.out]
            have hbad := HOK.out
            obtain ⟨q1, q2, q3⟩ := r5
            simp only [Bool.not_false] at hbad
            subst hbad
            rw [repN_bad])
          have hfin : ∀ w', (∀ b, b ≠ w.heap.size → w'.heap[b]? = W6.heap[b]?) → HasVal (fun b => w.heap.size ≤ b) w' (.mk 5 false 0 [] vs []) [.int .u8 5, .bool false, .int .i64 0, .string (bs []), .slice p7 vs.length c7, .slice none 0 0] := fun w' hw' => accL_val (hac6.kept relV (fun b hb _ => hw' b (by omega))) (fun b hb => by omega) (by omega)
          have HFIN := Lib.hid hfin
          have c0 := hv6.cell (i := 0) rfl
          have c1 := hv6.cell (i := 1) rfl
          have c2 := hv6.cell (i := 2) rfl
          have c3 := hv6.cell (i := 3) rfl
          have c4 := hv6.cell (i := 4) rfl
          have c5 := hv6.cell (i := 5) rfl
          have z0 := hz6.cell (i := 0) rfl
          have z1 := hz6.cell (i := 1) rfl
          have z2 := hz6.cell (i := 2) rfl
          have z3 := hz6.cell (i := 3) rfl
          have z4 := hz6.cell (i := 4) rfl
          have z5 := hz6.cell (i := 5) rfl
          have f0 := hz6.frozen 0
          have f1 := hz6.frozen 1
          have f2 := hz6.frozen 2
          have f3 := hz6.frozen 3
          have f4 := hz6.frozen 4
          have f5 := hz6.frozen 5
          have HZ6 := Lib.hid hz6
          have HB6 := Lib.hid hbw6
          clear hfin hac6 hv6 hz6 hbw6 hval6 hx6
          go_wp2
          exact rf_fin rfl rfl rfl HZ6.out HB6.out (Nat.le_refl _) HFIN.out (by rw [HR3.out]; rfl) (fun h => by cases h)
        · obtain ⟨hV5, hrest5⟩ := HOK2.out rfl
          have hbad := HOK.out
          have HRS : Hid (R = (.mk 5 false 0 [] ((vs ++ [.mk k1 b1 n1 s1 l1 f1]) ++ (repN (valueP k) (m - (j + 1)) (rest5, false)).1) [], (repN (valueP k) (m - (j + 1)) (rest5, false)).2)) := Lib.hid (by
            rw [HRR.out]
            obtain ⟨q1, q2, q3⟩ := r5
            simp only [Bool.not_true] at hbad hV5 hrest5
            subst hbad hV5 hrest5
            simp)
          have hrl5 : rest5.length ≤ 16384 := by
            have := HVL.out
            rw [← hrest5] at this
            omega
          clear HRR HOK HOK2 hV5 hrest5 hbad HVL
          have hbB : Below W6.heap.size W6 (W6.alloc (.cells #[.int .u8 (k1 : Int), .bool b1, .int .i64 n1, .string (bs s1), .slice pl1 l1.length cl1, .slice pf1 f1.length cf1] 26)) := (Below.refl _ _).alloc (Nat.le_refl _) _
          have HA := Lib.hid (hac6.kept relV (fun b hb hlt => hbB.block b hlt))
          have hyv : HasVal (fun b => w.heap.size + 2 ≤ b ∧ (Value.slice p7 vs.length c7).ownBlock ≠ some b) (W6.alloc (.cells #[.int .u8 (k1 : Int), .bool b1, .int .i64 n1, .string (bs s1), .slice pl1 l1.length cl1, .slice pf1 f1.length cf1] 26)) (.mk k1 b1 n1 s1 l1 f1) [.int .u8 (k1 : Int), .bool b1, .int .i64 n1, .string (bs s1), .slice pl1 l1.length cl1, .slice pf1 f1.length cf1] := HasVal.ext_to (S := fun b => wr.heap.size ≤ b) hval6 (fun b hb => ⟨by omega, fun e => by have := (HOW.out b e).2; omega⟩) (fun b _ hlt => hbB.block b hlt)
          have HY := Lib.hid hyv
          have HVA := Lib.hid (hv6.ext hbB)
          have HZA := Lib.hid (hz6.ext hbB)
          have HBA := Lib.hid (hbw6.trans (hbB.mono (by omega)))
          have d0 := hx6.cell (i := 0) rfl
          have d1 := hx6.cell (i := 1) rfl
          have d2 := hx6.cell (i := 2) rfl
          have d3 := hx6.cell (i := 3) rfl
          have d4 := hx6.cell (i := 4) rfl
          have d5 := hx6.cell (i := 5) rfl
          have c4 := hv6.cell (i := 4) rfl
          clear hyv hbB hac6 hv6 hz6 hbw6 hval6 hx6
          go_wp2_with (at_builtin; refine push_acc relV (w.heap.size + 2) rfl _ _ 23 26 (.agg #[.int .u8 0, .bool false, .int .i64 0, .string ⟨#[]⟩, .slice none 0 0, .slice none 0 0]) 80 rfl Tryd.underlying23 (by kernel_rfl) rfl (by decide) _ vs HA.out W6.heap.size [.int .u8 (k1 : Int), .bool b1, .int .i64 n1, .string (bs s1), .slice pl1 l1.length cl1, .slice pf1 f1.length cf1] (.mk k1 b1 n1 s1 l1 f1) (IsBlk.new _ _ _) HY.out rfl rfl (by simp; omega) (by omega) (by unfold maxLen; omega) ?_)
          intro g1 cap w7 hacc7 hg7 hB1 hor hlt7
          have hrow : ∀ j, (Value.slice p7 vs.length c7).ownBlock = some j → w.heap.size + 2 ≤ j := fun j hj => (HA.out.lt j hj).1
          have hv7 := blk_grown HVA.out hg7 (fun e => by have := hrow _ e; omega)
          have hz7 := blk_grown HZA.out hg7 (fun e => by have := hrow _ e; omega)
          have hb7 := below_grown HBA.out hg7 (by simp; omega) (fun j hj => by have := hrow j hj; omega)
          have f7 := hv7.frozen 4
          have d7 := hv7.cell (i := 4) rfl
          have HAS : Hid (Acc HasVal (w.heap.size + 2) 26 6 (w7.setCell ⟨w.heap.size + 1, 4, none⟩ (.slice (some ⟨g1, 0, none⟩) (vs.length + 1) cap)) (.slice (some ⟨g1, 0, none⟩) (vs.length + 1) cap) (vs ++ [.mk k1 b1 n1 s1 l1 f1])) := Lib.hid (hacc7.kept relV (fun b hb _ => Below.heap_setCell _ _ _ _ (show b ≠ w.heap.size + 1 by omega)))
          have HVS := Lib.hid (hv7.set 4 (.slice (some ⟨g1, 0, none⟩) (vs.length + 1) cap))
          have HZS := Lib.hid (hz7.set_other (a := ⟨w.heap.size + 1, 4, none⟩) (show w.heap.size + 1 ≠ w.heap.size by omega) (.slice (some ⟨g1, 0, none⟩) (vs.length + 1) cap))
          have HBS := Lib.hid (below_set hb7 (b := w.heap.size + 1) (o := 4) (u := .slice (some ⟨g1, 0, none⟩) (vs.length + 1) cap) (by omega))
          clear hacc7 hg7 hv7 hz7 hb7 hrow hor d0 d1 d2 d3 d4 d5 c4
          go_wp2
          go_roundw
          case rel => exact ⟨j + 1, vs ++ [.mk k1 b1 n1 s1 l1 f1], rest5, .slice (some ⟨g1, 0, none⟩) (vs.length + 1) cap, by go_num, rfl, by omega, by rw [List.length_append, HVJ.out]; rfl, by simpa using HVS.out, HAS.out, hrl5, HZS.out, HBS.out, HRS.out⟩
          case measure => simp [intOf]; omega
      · have HRE : Hid (R = (.mk 5 false 0 [] vs [], (st, false))) := Lib.hid (by rw [hRR, show m - j = 0 by omega, repN_zero]; simp)
        have hfin : ∀ w', (∀ b, b ≠ w.heap.size → w'.heap[b]? = wr.heap[b]?) → HasVal (fun b => w.heap.size ≤ b) w' (.mk 5 false 0 [] vs []) [.int .u8 5, .bool false, .int .i64 0, .string (bs []), .slice p7 vs.length c7, .slice none 0 0] := fun w' hw' => accL_val (HAC.out.kept relV (fun b hb _ => hw' b (by omega))) (fun b hb => by omega) (by omega)
        have HFIN := Lib.hid hfin
        have c0 := HV7.out.cell (i := 0) rfl
        have c1 := HV7.out.cell (i := 1) rfl
        have c2 := HV7.out.cell (i := 2) rfl
        have c3 := HV7.out.cell (i := 3) rfl
        have c4 := HV7.out.cell (i := 4) rfl
        have c5 := HV7.out.cell (i := 5) rfl
        have z0 := HZ7.out.cell (i := 0) rfl
        have z1 := HZ7.out.cell (i := 1) rfl
        have z2 := HZ7.out.cell (i := 2) rfl
        have z3 := HZ7.out.cell (i := 3) rfl
        have z4 := HZ7.out.cell (i := 4) rfl
        have z5 := HZ7.out.cell (i := 5) rfl
        have f0 := HZ7.out.frozen 0
        have f1 := HZ7.out.frozen 1
        have f2 := HZ7.out.frozen 2
        have f3 := HZ7.out.frozen 3
        have f4 := HZ7.out.frozen 4
        have f5 := HZ7.out.frozen 5
        clear hfin hRR
        go_wp2
        exact rf_fin rfl rfl rfl HZ7.out HB7.out (Nat.le_refl _) HFIN.out (by rw [HRE.out]; rfl) (fun _ => by rw [HRE.out]; exact ⟨rfl, rfl⟩)
  · obtain rfl := hbn 7 hb
    have HR : Hid (R = (.mk 6 false 0 [] [] (repN (fieldP (valueP k)) (manyP (l, false)).1 (manyP (l, false)).2).1, (repN (fieldP (valueP k)) (manyP (l, false)).1 (manyP (l, false)).2).2)) := Lib.hid hR
    clear hR hbn
    subst hb
    go_enter Tryd.func28, Tryd.ntmps28
    go_upto_region 21 with (fail)
    generalize hW0 : World.alloc (World.alloc w _) _ = W0
    have hz0 : IsBlk W0 w.heap.size #[.int .u8 0, .bool false, .int .i64 0, .string (bs []), .slice none 0 0, .slice none 0 0] 26 := by rw [← hW0]; exact (IsBlk.new _ _ _).alloc _
    have hv0 : IsBlk W0 (w.heap.size + 1) #[.int .u8 0, .bool false, .int .i64 0, .string (bs []), .slice none 0 0, .slice none 0 0] 26 := by rw [← hW0]; exact IsBlk.new_at (by simp)
    have hbw0 : Below w.heap.size w W0 := by rw [← hW0]; exact ((Below.refl _ _).alloc (Nat.le_refl _) _).alloc (by simp) _
    clear hW0
    go_wp2_with fail
    go_at_call 17
    refine (ref_readNumber_any (bs l) _ (by omega)).mono ?_
    rw [bs_toList]
    rintro e' w1 ⟨hen, hb⟩
    have hz1 := hz0.ext hb
    have hv1 := hv0.ext hb
    have HBW := Lib.hid (hbw0.trans (hb.mono (by have := hz0.lt; omega)))
    have hlt1 := hv1.lt
    clear hb hz0 hv0 hbw0
    cases hn : readNum l with
    | none =>
      have HR2 : Hid (R.2.2 = true) := Lib.hid (by rw [HR.out]; simp [manyP, numP, hn, repN_bad])
      rw [hn] at hen
      clear HR hn
      subst hen
      simp only [rdP]
      have c0 := hv1.cell (i := 0) rfl
      have c1 := hv1.cell (i := 1) rfl
      have c2 := hv1.cell (i := 2) rfl
      have c3 := hv1.cell (i := 3) rfl
      have c4 := hv1.cell (i := 4) rfl
      have c5 := hv1.cell (i := 5) rfl
      have z0 := hz1.cell (i := 0) rfl
      have z1 := hz1.cell (i := 1) rfl
      have z2 := hz1.cell (i := 2) rfl
      have z3 := hz1.cell (i := 3) rfl
      have z4 := hz1.cell (i := 4) rfl
      have z5 := hz1.cell (i := 5) rfl
      have f0 := hz1.frozen 0
      have f1 := hz1.frozen 1
      have f2 := hz1.frozen 2
      have f3 := hz1.frozen 3
      have f4 := hz1.frozen 4
      have f5 := hz1.frozen 5
      have HZ1 := Lib.hid hz1
      clear hz1 hv1
      go_wp2
      exact rf_fin rfl rfl rfl HZ1.out HBW.out (Nat.le_refl _) (fun w' _ => zero_has _ w') (by rw [HR2.out]; rfl) (fun h => by cases h)
    | some p =>
      obtain ⟨m, c⟩ := p
      rw [hn] at hen
      subst hen
      obtain ⟨_, hc, hc1, hc10⟩ := readNum_some hn
      have hm64 := readNum_lt hn
      simp only [rdP]
      by_cases hm : m ≤ 64
      case neg =>
        have HR2 : Hid (R.2.2 = true) := Lib.hid (by rw [HR.out]; simp [manyP, numP, hn, repN_bad, show 64 < m by omega])
        clear HR hn
        have c0 := hv1.cell (i := 0) rfl
        have c1 := hv1.cell (i := 1) rfl
        have c2 := hv1.cell (i := 2) rfl
        have c3 := hv1.cell (i := 3) rfl
        have c4 := hv1.cell (i := 4) rfl
        have c5 := hv1.cell (i := 5) rfl
        have z0 := hz1.cell (i := 0) rfl
        have z1 := hz1.cell (i := 1) rfl
        have z2 := hz1.cell (i := 2) rfl
        have z3 := hz1.cell (i := 3) rfl
        have z4 := hz1.cell (i := 4) rfl
        have z5 := hz1.cell (i := 5) rfl
        have f0 := hz1.frozen 0
        have f1 := hz1.frozen 1
        have f2 := hz1.frozen 2
        have f3 := hz1.frozen 3
        have f4 := hz1.frozen 4
        have f5 := hz1.frozen 5
        have HZ1 := Lib.hid hz1
        have hmI : (64 : Int) < (m : Int) := by omega
        clear hz1 hv1 hm
        go_wp2
        exact rf_fin rfl rfl rfl HZ1.out HBW.out (Nat.le_refl _) (fun w' _ => zero_has _ w') (by rw [HR2.out]; rfl) (fun h => by cases h)
      have HR2 : Hid (R = (.mk 6 false 0 [] [] ([] ++ (repN (fieldP (valueP k)) (m - 0) (l.drop c, false)).1), (repN (fieldP (valueP k)) (m - 0) (l.drop c, false)).2)) := Lib.hid (by rw [HR.out]; simp [manyP, numP, hn, show ¬ 64 < m by omega])
      clear HR hn
      have hmI : (m : Int) ≤ 64 := by omega
      have he2 : (bs l).extract c l.length = bs (l.drop c) := by rw [bs_extract, List.take_length]
      have hcI : (c : Int) ≤ (l.length : Int) := by omega
      have v0 := hv1.cell (i := 0) rfl
      have vf := hv1.frozen 0
      have HZ1 := Lib.hid hz1
      have HV1 := Lib.hid hv1
      clear hz1 hv1
      go_upto_block 1 with (fail)
      generalize hW2 : World.setCell _ _ _ = W2
      have hv2 : IsBlk W2 (w.heap.size + 1) #[.int .u8 6, .bool false, .int .i64 0, .string (bs []), .slice none 0 0, .slice none 0 0] 26 := by rw [← hW2]; simpa using (HV1.out.set 0 (.int .u8 5)).set 0 (.int .u8 6)
      have hz2 : IsBlk W2 w.heap.size #[.int .u8 0, .bool false, .int .i64 0, .string (bs []), .slice none 0 0, .slice none 0 0] 26 := by rw [← hW2]; exact (HZ1.out.set_other (a := ⟨w.heap.size + 1, 0, none⟩) (show w.heap.size + 1 ≠ w.heap.size by omega) _).set_other (a := ⟨w.heap.size + 1, 0, none⟩) (show w.heap.size + 1 ≠ w.heap.size by omega) _
      have hb2 : Below w.heap.size w W2 := by rw [← hW2]; exact below_set (below_set HBW.out (by omega)) (by omega)
      have HV2 := Lib.hid hv2
      have HZ2 := Lib.hid hz2
      have HB2 := Lib.hid hb2
      clear hW2 hv2 hz2 hb2 v0 vf HV1 HZ1 HBW he2 hlt1
      go_wp2
      go_loopw [18, 0] (fun i sv wr => ∃ (j : Nat) (vs : List (List UInt8 × DVal)) (st : List UInt8) (lv : Value), i = .int .u64 j ∧ sv = .string (bs st) ∧ j ≤ m ∧ vs.length = j ∧ IsBlk wr (w.heap.size + 1) #[.int .u8 6, .bool false, .int .i64 0, .string (bs []), .slice none 0 0, lv] 26 ∧ Acc HasFld (w.heap.size + 2) 61 7 wr lv vs ∧ st.length ≤ 16384 ∧ IsBlk wr w.heap.size #[.int .u8 0, .bool false, .int .i64 0, .string (bs []), .slice none 0 0, .slice none 0 0] 26 ∧ Below w.heap.size w wr ∧ R = (.mk 6 false 0 [] [] (vs ++ (repN (fieldP (valueP k)) (m - j) (st, false)).1), (repN (fieldP (valueP k)) (m - j) (st, false)).2)) (fun i _ _ => m - (intOf i).toNat)
      case atStart => exact ⟨0, [], l.drop c, .slice none 0 0, rfl, rfl, by omega, rfl, HV2.out, Acc.nil _ _ _, by rw [List.length_drop]; omega, HZ2.out, HB2.out, HR2.out⟩
      case round =>
      clear HV2 HZ2 HB2 HR2
      obtain ⟨j, vs, st, lv, rfl, rfl, hjm, hvj, hv7, hacc, hsl, hz7, hb7, hRR⟩ := hrel
      have hst := bs_size st
      have hh7 := hv7.lt
      have hwr := hb7.size
      obtain ⟨p7, c7, hlv⟩ := hacc.slice
      subst hlv
      have hown := hacc.lt
      have HOW := Lib.hid hown
      have HV7 := Lib.hid hv7
      have HAC := Lib.hid hacc
      have HZ7 := Lib.hid hz7
      have HB7 := Lib.hid hb7
      have HVJ := Lib.hid hvj
      have hvl64 : vs.length ≤ 64 := by omega
      clear hown hv7 hacc hz7 hb7 hvj
      by_cases hlt : j < m
      · rw [show m - j = (m - (j + 1)) + 1 by omega, repN_more] at hRR
        have hbpl := bytesP_rest st
        cases hbp : bytesP st with
        | mk x xr =>
        obtain ⟨rest, okx⟩ := xr
        rw [hbp] at hbpl
        simp only [] at hbpl
        have HBP := Lib.hid hbp
        have HRR := Lib.hid hRR
        clear hbp hRR
        go_wp2_with fail
        go_at_call 52
        refine (ref_bytes2_any st _ (by omega)).mono ?_
        rintro e' w4 ⟨he4, hb4⟩
        rw [HBP.out] at he4
        subst he4
        have hac4 := HAC.out.kept relF (fun b hb hlt => hb4.block b hlt)
        have hv4 := HV7.out.ext hb4
        have hz4 := HZ7.out.ext hb4
        have hbw4 := HB7.out.trans (hb4.mono (by omega))
        have hs4 := hb4.size
        simp only []
        cases okx
        · have HR3 : Hid (R.2.2 = true) := Lib.hid (by
            rw [HRR.out]
            have hbad := fieldP_none (k := k) (st := st) (by rw [HBP.out])
            generalize fieldP (valueP k) (st, false) = q at hbad ⊢
            obtain ⟨q1, q2, q3⟩ := q
            simp only [] at hbad
            subst hbad
            rw [repN_bad])
          have hfin : ∀ w', (∀ b, b ≠ w.heap.size → w'.heap[b]? = w4.heap[b]?) → HasVal (fun b => w.heap.size ≤ b) w' (.mk 6 false 0 [] [] vs) [.int .u8 6, .bool false, .int .i64 0, .string (bs []), .slice none 0 0, .slice p7 vs.length c7] := fun w' hw' => accF_val (hac4.kept relF (fun b hb _ => hw' b (by omega))) (fun b hb => by omega) (by omega)
          have HFIN := Lib.hid hfin
          have c0 := hv4.cell (i := 0) rfl
          have c1 := hv4.cell (i := 1) rfl
          have c2 := hv4.cell (i := 2) rfl
          have c3 := hv4.cell (i := 3) rfl
          have c4 := hv4.cell (i := 4) rfl
          have c5 := hv4.cell (i := 5) rfl
          have z0 := hz4.cell (i := 0) rfl
          have z1 := hz4.cell (i := 1) rfl
          have z2 := hz4.cell (i := 2) rfl
          have z3 := hz4.cell (i := 3) rfl
          have z4 := hz4.cell (i := 4) rfl
          have z5 := hz4.cell (i := 5) rfl
          have f0 := hz4.frozen 0
          have f1 := hz4.frozen 1
          have f2 := hz4.frozen 2
          have f3 := hz4.frozen 3
          have f4 := hz4.frozen 4
          have f5 := hz4.frozen 5
          have HZ4 := Lib.hid hz4
          have HB4 := Lib.hid hbw4
          clear hfin hac4 hv4 hz4 hbw4 hb4
          go_wp2
          exact rf_fin rfl rfl rfl HZ4.out HB4.out (Nat.le_refl _) HFIN.out (by rw [HR3.out]; rfl) (fun h => by cases h)
        obtain ⟨hxl, hrl⟩ := hbpl rfl
        have hRR := HRR.out
        rw [fieldP_some (valueP k) HBP.out] at hRR
        simp only [] at hRR
        clear hbpl HRR
        have HAC := Lib.hid hac4
        have HV7 := Lib.hid hv4
        have HZ7 := Lib.hid hz4
        have HB7 := Lib.hid hbw4
        clear hac4 hv4 hz4 hbw4 hb4
        have hrst := bs_size rest
        obtain ⟨r5, hr5⟩ : ∃ r5, r5 = valueP k (rest, false) := ⟨_, rfl⟩
        have hvl := valueP_len k (rest, false)
        rw [← hr5] at hRR hvl
        have HRR := Lib.hid hRR
        have HR5 := Lib.hid hr5
        have HVL := Lib.hid hvl
        clear hRR hr5 hvl
        go_wp2_with fail
        go_at_call 28
        refine (IH2.out rest (dI + 1) _ HDK.out (by omega)).mono ?_
        rintro e' w5 ⟨V5, cs5, rest5, ok5, rfl, hval, hbx, hok, hok2⟩
        rw [← HR5.out] at hok hok2
        obtain ⟨k1, b1, n1, s1, l1, f1⟩ := V5
        have hval2 := hval
        obtain ⟨pl1, cl1, pf1, cf1, rfl, hr1⟩ := hasVal_mk.1 hval2
        clear hval2 hr1
        have hac5 := HAC.out.kept relF (fun b hb hlt => hbx.block b hlt)
        have hv5 := HV7.out.ext hbx
        have hz5 := HZ7.out.ext hbx
        have hbw5 := HB7.out.trans (hbx.mono (by omega))
        have hs5 := hbx.size
        have HOK := Lib.hid hok
        have HOK2 := Lib.hid hok2
        clear hbx hok hok2 HR5
        go_upto_region 37 with (fail)
        generalize hW6 : World.alloc w5 _ = W6
        have hbA : Below w5.heap.size w5 W6 := by rw [← hW6]; exact (Below.refl _ _).alloc (Nat.le_refl _) _
        have hx6 : IsBlk W6 w5.heap.size #[.int .u8 (k1 : Int), .bool b1, .int .i64 n1, .string (bs s1), .slice pl1 l1.length cl1, .slice pf1 f1.length cf1] 26 := by rw [← hW6]; exact IsBlk.new _ _ _
        have hac6 := hac5.kept relF (fun b hb hlt => hbA.block b hlt)
        have hv6 := hv5.ext hbA
        have hz6 := hz5.ext hbA
        have hbw6 := hbw5.trans (hbA.mono (by omega))
        have hval6 := hval.ext hbA
        have hs6 := hx6.lt
        clear hW6 hbA hac5 hv5 hz5 hbw5 hval
        cases ok5
        · have HR3 : Hid (R.2.2 = true) := Lib.hid (by
            rw [HRR.out]
            have hbad := HOK.out
            obtain ⟨q1, q2, q3⟩ := r5
            simp only [Bool.not_false] at hbad
            subst hbad
            rw [repN_bad])
          have hfin : ∀ w', (∀ b, b ≠ w.heap.size → w'.heap[b]? = W6.heap[b]?) → HasVal (fun b => w.heap.size ≤ b) w' (.mk 6 false 0 [] [] vs) [.int .u8 6, .bool false, .int .i64 0, .string (bs []), .slice none 0 0, .slice p7 vs.length c7] := fun w' hw' => accF_val (hac6.kept relF (fun b hb _ => hw' b (by omega))) (fun b hb => by omega) (by omega)
          have HFIN := Lib.hid hfin
          have c0 := hv6.cell (i := 0) rfl
          have c1 := hv6.cell (i := 1) rfl
          have c2 := hv6.cell (i := 2) rfl
          have c3 := hv6.cell (i := 3) rfl
          have c4 := hv6.cell (i := 4) rfl
          have c5 := hv6.cell (i := 5) rfl
          have z0 := hz6.cell (i := 0) rfl
          have z1 := hz6.cell (i := 1) rfl
          have z2 := hz6.cell (i := 2) rfl
          have z3 := hz6.cell (i := 3) rfl
          have z4 := hz6.cell (i := 4) rfl
          have z5 := hz6.cell (i := 5) rfl
          have f0 := hz6.frozen 0
          have f1 := hz6.frozen 1
          have f2 := hz6.frozen 2
          have f3 := hz6.frozen 3
          have f4 := hz6.frozen 4
          have f5 := hz6.frozen 5
          have HZ6 := Lib.hid hz6
          have HB6 := Lib.hid hbw6
          clear hfin hac6 hv6 hz6 hbw6 hval6 hx6
          go_wp2
          exact rf_fin rfl rfl rfl HZ6.out HB6.out (Nat.le_refl _) HFIN.out (by rw [HR3.out]; rfl) (fun h => by cases h)
        · obtain ⟨hV5, hrest5⟩ := HOK2.out rfl
          have hbad := HOK.out
          have HRS : Hid (R = (.mk 6 false 0 [] [] ((vs ++ [(x, .mk k1 b1 n1 s1 l1 f1)]) ++ (repN (fieldP (valueP k)) (m - (j + 1)) (rest5, false)).1), (repN (fieldP (valueP k)) (m - (j + 1)) (rest5, false)).2)) := Lib.hid (by
            rw [HRR.out]
            obtain ⟨q1, q2, q3⟩ := r5
            simp only [Bool.not_true] at hbad hV5 hrest5
            subst hbad hV5 hrest5
            simp)
          have hrl5 : rest5.length ≤ 16384 := by
            have := HVL.out
            rw [← hrest5] at this
            omega
          clear HRR HOK HOK2 hV5 hrest5 hbad HVL
          have hbB : Below W6.heap.size W6 (W6.alloc (.cells #[.string (bs x), .int .u8 (k1 : Int), .bool b1, .int .i64 n1, .string (bs s1), .slice pl1 l1.length cl1, .slice pf1 f1.length cf1] 61)) := (Below.refl _ _).alloc (Nat.le_refl _) _
          have HA := Lib.hid (hac6.kept relF (fun b hb hlt => hbB.block b hlt))
          have hyv : HasVal (fun b => w.heap.size + 2 ≤ b ∧ (Value.slice p7 vs.length c7).ownBlock ≠ some b) (W6.alloc (.cells #[.string (bs x), .int .u8 (k1 : Int), .bool b1, .int .i64 n1, .string (bs s1), .slice pl1 l1.length cl1, .slice pf1 f1.length cf1] 61)) (.mk k1 b1 n1 s1 l1 f1) [.int .u8 (k1 : Int), .bool b1, .int .i64 n1, .string (bs s1), .slice pl1 l1.length cl1, .slice pf1 f1.length cf1] := HasVal.ext_to (S := fun b => w4.heap.size ≤ b) hval6 (fun b hb => ⟨by omega, fun e => by have := (HOW.out b e).2; omega⟩) (fun b _ hlt => hbB.block b hlt)
          have hyf : HasFld (fun b => w.heap.size + 2 ≤ b ∧ (Value.slice p7 vs.length c7).ownBlock ≠ some b) (W6.alloc (.cells #[.string (bs x), .int .u8 (k1 : Int), .bool b1, .int .i64 n1, .string (bs s1), .slice pl1 l1.length cl1, .slice pf1 f1.length cf1] 61)) ((x, .mk k1 b1 n1 s1 l1 f1)) [.string (bs x), .int .u8 (k1 : Int), .bool b1, .int .i64 n1, .string (bs s1), .slice pl1 l1.length cl1, .slice pf1 f1.length cf1] := ⟨_, rfl, by simp only []; omega, hyv⟩
          have HY := Lib.hid hyf
          clear hyf
          have HVA := Lib.hid (hv6.ext hbB)
          have HZA := Lib.hid (hz6.ext hbB)
          have HBA := Lib.hid (hbw6.trans (hbB.mono (by omega)))
          have d0 := hx6.cell (i := 0) rfl
          have d1 := hx6.cell (i := 1) rfl
          have d2 := hx6.cell (i := 2) rfl
          have d3 := hx6.cell (i := 3) rfl
          have d4 := hx6.cell (i := 4) rfl
          have d5 := hx6.cell (i := 5) rfl
          have c5 := hv6.cell (i := 5) rfl
          clear hyv hbB hac6 hv6 hz6 hbw6 hval6 hx6
          go_wp2_with (at_builtin; refine push_acc relF (w.heap.size + 2) rfl _ _ 24 61 (.agg #[.string ⟨#[]⟩, .int .u8 0, .bool false, .int .i64 0, .string ⟨#[]⟩, .slice none 0 0, .slice none 0 0]) 96 rfl Tryd.underlying24 (by kernel_rfl) rfl (by decide) _ vs HA.out W6.heap.size [.string (bs x), .int .u8 (k1 : Int), .bool b1, .int .i64 n1, .string (bs s1), .slice pl1 l1.length cl1, .slice pf1 f1.length cf1] ((x, .mk k1 b1 n1 s1 l1 f1)) (IsBlk.new _ _ _) HY.out rfl rfl (by simp; omega) (by omega) (by unfold maxLen; omega) ?_)
          intro g1 cap w7 hacc7 hg7 hB1 hor hlt7
          have hrow : ∀ j, (Value.slice p7 vs.length c7).ownBlock = some j → w.heap.size + 2 ≤ j := fun j hj => (HA.out.lt j hj).1
          have hv7 := blk_grown HVA.out hg7 (fun e => by have := hrow _ e; omega)
          have hz7 := blk_grown HZA.out hg7 (fun e => by have := hrow _ e; omega)
          have hb7 := below_grown HBA.out hg7 (by simp; omega) (fun j hj => by have := hrow j hj; omega)
          have f7 := hv7.frozen 5
          have d7 := hv7.cell (i := 5) rfl
          have HAS : Hid (Acc HasFld (w.heap.size + 2) 61 7 (w7.setCell ⟨w.heap.size + 1, 5, none⟩ (.slice (some ⟨g1, 0, none⟩) (vs.length + 1) cap)) (.slice (some ⟨g1, 0, none⟩) (vs.length + 1) cap) (vs ++ [(x, .mk k1 b1 n1 s1 l1 f1)])) := Lib.hid (hacc7.kept relF (fun b hb _ => Below.heap_setCell _ _ _ _ (show b ≠ w.heap.size + 1 by omega)))
          have HVS := Lib.hid (hv7.set 5 (.slice (some ⟨g1, 0, none⟩) (vs.length + 1) cap))
          have HZS := Lib.hid (hz7.set_other (a := ⟨w.heap.size + 1, 5, none⟩) (show w.heap.size + 1 ≠ w.heap.size by omega) (.slice (some ⟨g1, 0, none⟩) (vs.length + 1) cap))
          have HBS := Lib.hid (below_set hb7 (b := w.heap.size + 1) (o := 5) (u := .slice (some ⟨g1, 0, none⟩) (vs.length + 1) cap) (by omega))
          clear hacc7 hg7 hv7 hz7 hb7 hrow hor d0 d1 d2 d3 d4 d5 c5
          go_wp2
          go_roundw
          case rel => exact ⟨j + 1, vs ++ [(x, .mk k1 b1 n1 s1 l1 f1)], rest5, .slice (some ⟨g1, 0, none⟩) (vs.length + 1) cap, by go_num, rfl, by omega, by rw [List.length_append, HVJ.out]; rfl, by simpa using HVS.out, HAS.out, hrl5, HZS.out, HBS.out, HRS.out⟩
          case measure => simp [intOf]; omega
      · have HRE : Hid (R = (.mk 6 false 0 [] [] vs, (st, false))) := Lib.hid (by rw [hRR, show m - j = 0 by omega, repN_zero]; simp)
        have hfin : ∀ w', (∀ b, b ≠ w.heap.size → w'.heap[b]? = wr.heap[b]?) → HasVal (fun b => w.heap.size ≤ b) w' (.mk 6 false 0 [] [] vs) [.int .u8 6, .bool false, .int .i64 0, .string (bs []), .slice none 0 0, .slice p7 vs.length c7] := fun w' hw' => accF_val (HAC.out.kept relF (fun b hb _ => hw' b (by omega))) (fun b hb => by omega) (by omega)
        have HFIN := Lib.hid hfin
        have c0 := HV7.out.cell (i := 0) rfl
        have c1 := HV7.out.cell (i := 1) rfl
        have c2 := HV7.out.cell (i := 2) rfl
        have c3 := HV7.out.cell (i := 3) rfl
        have c4 := HV7.out.cell (i := 4) rfl
        have c5 := HV7.out.cell (i := 5) rfl
        have z0 := HZ7.out.cell (i := 0) rfl
        have z1 := HZ7.out.cell (i := 1) rfl
        have z2 := HZ7.out.cell (i := 2) rfl
        have z3 := HZ7.out.cell (i := 3) rfl
        have z4 := HZ7.out.cell (i := 4) rfl
        have z5 := HZ7.out.cell (i := 5) rfl
        have f0 := HZ7.out.frozen 0
        have f1 := HZ7.out.frozen 1
        have f2 := HZ7.out.frozen 2
        have f3 := HZ7.out.frozen 3
        have f4 := HZ7.out.frozen 4
        have f5 := HZ7.out.frozen 5
        clear hfin hRR
        go_wp2
        exact rf_fin rfl rfl rfl HZ7.out HB7.out (Nat.le_refl _) HFIN.out (by rw [HRE.out]; rfl) (fun _ => by rw [HRE.out]; exact ⟨rfl, rfl⟩)
theorem rf_any : ∀ (k : Nat), k ≤ 11 → RfOk k := by
  intro k
  induction k with
  | zero => intro h; exact rf_step 0 (fun k' e => by omega) h
  | succ k ih => intro h; exact rf_step (k + 1) (fun k' e => by obtain rfl : k' = k := by omega
                                                                exact ih (by omega)) h
/-- What the reference's Read answers. -/
def rdR (s : List UInt8) : DVal × Int := if 16384 < s.length then (.zero, 4) else if (valueP 11 (s, false)).2.2 = true ∨ (valueP 11 (s, false)).2.1 ≠ [] ∨ checkV 0 (valueP 11 (s, false)).1 ≠ 0 then (.zero, 11) else ((valueP 11 (s, false)).1, 0)
theorem rr_ret {tmps : Array Value} {w w2 : World} {h : Nat} {V : DVal} {y : Int} {cs : List Value} (hp : tmps.getD 2 undef = .pointer (some ⟨h, 0, none⟩)) (hy : tmps.getD 3 undef = .int .i64 y) (hz : IsBlk w2 h cs.toArray 26) (hv : HasVal (fun b => w.heap.size ≤ b) w2 V cs) (hb : Below w.heap.size w w2) :
    bodyPost Tryd.prog Tryd.f13 (RdPost w (V, y)) Exit.ret { tmps := tmps, defers := [] } w2 :=
  bodyPost_ret (v := .tuple #[.agg cs.toArray, .int .i64 y]) (results_ct (p := 2) (u := 3) (ty := 26) Tryd.results13 hp hz Tryd.underlying26 rfl (by rw [List.size_toArray, hv.len]; kernel_rfl) hy) rfl ⟨cs, rfl, hv, hb⟩
theorem rr_fin {tmps : Array Value} {w w2 : World} {h : Nat} {V : DVal} {y : Int} {a0 a1 a2 a3 a4 a5 c0 c1 c2 c3 c4 c5 : Value} (hp : tmps.getD 2 undef = .pointer (some ⟨h, 0, none⟩)) (hy : tmps.getD 3 undef = .int .i64 y) (hz : IsBlk w2 h #[a0, a1, a2, a3, a4, a5] 26) (hb : Below w.heap.size w w2) (hh : w.heap.size ≤ h)
    (hv : ∀ w', (∀ b, b ≠ h → w'.heap[b]? = w2.heap[b]?) → HasVal (fun b => w.heap.size ≤ b) w' V [c0, c1, c2, c3, c4, c5]) :
    bodyPost Tryd.prog Tryd.f13 (RdPost w (V, y)) Exit.ret { tmps := tmps, defers := [] }
      ((((((w2.setCell ⟨h, 0, none⟩ c0).setCell ⟨h, 1, none⟩ c1).setCell ⟨h, 2, none⟩ c2).setCell ⟨h, 3, none⟩ c3).setCell ⟨h, 4, none⟩ c4).setCell ⟨h, 5, none⟩ c5) := by
  refine rr_ret hp hy (cs := [c0, c1, c2, c3, c4, c5]) (set6 hz c0 c1 c2 c3 c4 c5) (hv _ (fun b hb => ?_)) (below6 hb hh c0 c1 c2 c3 c4 c5)
  have e : ∀ (W : World) (o : Nat) (u : Value), (W.setCell ⟨h, o, none⟩ u).heap[b]? = W.heap[b]? := fun W o u => Below.heap_setCell _ _ _ _ hb
  rw [e, e, e, e, e, e]
set_option maxHeartbeats 4000000 in
theorem ref_read_any (s : List UInt8) (w : World) (hs : s.length ≤ 1099511627776) : Calls Tryd.prog 13 #[.string (bs s)] w (RdPost w (rdR s)) := by
  have hsz := bs_size s
  obtain ⟨R, hR⟩ : ∃ R, R = rdR s := ⟨_, rfl⟩
  rw [← hR]
  rw [rdR] at hR
  by_cases h16 : 16384 < s.length
  · have hI : (16384 : Int) < (s.length : Int) := by omega
    rw [if_pos h16] at hR
    clear h16
    subst hR
    go_enter Tryd.func13, Tryd.ntmps13
    go_wp2
    exact rr_ret rfl rfl (IsBlk.new _ _ _) (zero_has _ _) ((Below.refl _ _).alloc (Nat.le_refl _) _)
  · have hI : (s.length : Int) ≤ 16384 := by omega
    rw [if_neg h16] at hR
    have HR := Lib.hid hR
    clear hR h16
    go_enter Tryd.func13, Tryd.ntmps13
    go_wp2_with fail
    go_at_call 28
    have hbA : Below w.heap.size w (w.alloc (.cells #[.int .u8 0, .bool false, .int .i64 0, .string ⟨#[]⟩, .slice none 0 0, .slice none 0 0] 26)) := (Below.refl _ _).alloc (Nat.le_refl _) _
    have hzA : IsBlk (w.alloc (.cells #[.int .u8 0, .bool false, .int .i64 0, .string ⟨#[]⟩, .slice none 0 0, .slice none 0 0] 26)) w.heap.size #[.int .u8 0, .bool false, .int .i64 0, .string (bs []), .slice none 0 0, .slice none 0 0] 26 := IsBlk.new _ _ _
    refine (rf_any 11 (Nat.le_refl _) s 0 _ (by decide) (by omega)).mono ?_
    rintro e' w3 ⟨V, cs, rest, ok, rfl, hval, hb3, hok, hok2⟩
    have hz3 := hzA.ext hb3
    have hs3 := hb3.size
    simp only [World.size_alloc] at hs3
    have hbw3 := hbA.trans (hb3.mono (by simp))
    have hval3 : HasVal (fun b => w.heap.size + 1 ≤ b) w3 V cs := hval.ext_to (fun b hb => by simp only [World.size_alloc] at hb; omega) (fun _ _ _ => rfl)
    clear hbA hzA hb3 hval
    obtain ⟨k1, b1, n1, s1, l1, f1⟩ := V
    have hvc := hval3
    obtain ⟨pl1, cl1, pf1, cf1, rfl, hrr⟩ := hasVal_mk.1 hvc
    clear hvc hrr
    have HOK := Lib.hid hok
    have HOK2 := Lib.hid hok2
    clear hok hok2
    have hrsz := bs_size rest
    go_upto_region 4 with (fail)
    generalize hW4 : World.alloc w3 _ = W4
    have hb4 : Below w3.heap.size w3 W4 := by rw [← hW4]; exact (Below.refl _ _).alloc (Nat.le_refl _) _
    have hd4 : IsBlk W4 w3.heap.size #[.int .u8 (k1 : Int), .bool b1, .int .i64 n1, .string (bs s1), .slice pl1 l1.length cl1, .slice pf1 f1.length cf1] 26 := by rw [← hW4]; exact IsBlk.new _ _ _
    have hz4 := hz3.ext hb4
    have hbw4 := hbw3.trans (hb4.mono (by omega))
    have hval4 := hval3.ext hb4
    clear hW4 hb4 hz3 hbw3 hval3
    cases ok
    · have HR2 : Hid (R = (.zero, 11)) := Lib.hid (by rw [HR.out, if_pos (Or.inl (by simpa using HOK.out))])
      have z0 := hz4.cell (i := 0) rfl
      have z1 := hz4.cell (i := 1) rfl
      have z2 := hz4.cell (i := 2) rfl
      have z3 := hz4.cell (i := 3) rfl
      have z4 := hz4.cell (i := 4) rfl
      have z5 := hz4.cell (i := 5) rfl
      have f0 := hz4.frozen 0
      have f1 := hz4.frozen 1
      have f2 := hz4.frozen 2
      have f3 := hz4.frozen 3
      have f4 := hz4.frozen 4
      have f5 := hz4.frozen 5
      have HZ4 := Lib.hid hz4
      have HB4 := Lib.hid hbw4
      clear hz4 hbw4 hval4 hd4 HR
      go_wp2
      rw [HR2.out]
      exact rr_fin rfl rfl HZ4.out HB4.out (Nat.le_refl _) (fun w' _ => zero_has _ w')
    · obtain ⟨hV, hrest⟩ := HOK2.out rfl
      by_cases hr0 : rest = []
      · obtain ⟨C, hC⟩ : ∃ C, C = checkV 0 (.mk k1 b1 n1 s1 l1 f1) := ⟨_, rfl⟩
        have HC := Lib.hid hC
        have HR2 : Hid (R = if C ≠ 0 then (.zero, 11) else (.mk k1 b1 n1 s1 l1 f1, 0)) := Lib.hid (by
          rw [HR.out, ← hrest, ← hV, hr0, ← hC, HOK.out]
          simp)
        subst hr0
        have he : (bs []).toList.isEmpty = true := by rw [tl_bs]; rfl
        have HZ4 := Lib.hid hz4
        have HB4 := Lib.hid hbw4
        have HV4 := Lib.hid hval4
        have HD4 := Lib.hid hd4
        have d0 := hd4.cell (i := 0) rfl
        have d1 := hd4.cell (i := 1) rfl
        have d2 := hd4.cell (i := 2) rfl
        have d3 := hd4.cell (i := 3) rfl
        have d4 := hd4.cell (i := 4) rfl
        have d5 := hd4.cell (i := 5) rfl
        clear hV hrest hC hz4 hbw4 hval4 hd4 HR hrsz
        go_wp2_with fail
        go_at_call 25
        refine (ref_check_any (.mk k1 b1 n1 s1 l1 f1) _ _ _ HV4.out).mono ?_
        rintro e' w5 ⟨he5, hb5⟩
        rw [← HC.out] at he5
        subst he5
        have hz5 := HZ4.out.ext hb5
        have hd5 := HD4.out.ext hb5
        have HB5 := Lib.hid (HB4.out.trans (hb5.mono (by have := HZ4.out.lt; omega)))
        have HV5 := Lib.hid (HV4.out.ext hb5)
        clear d0 d1 d2 d3 d4 d5 hb5
        have d0 := hd5.cell (i := 0) rfl
        have d1 := hd5.cell (i := 1) rfl
        have d2 := hd5.cell (i := 2) rfl
        have d3 := hd5.cell (i := 3) rfl
        have d4 := hd5.cell (i := 4) rfl
        have d5 := hd5.cell (i := 5) rfl
        have z0 := hz5.cell (i := 0) rfl
        have z1 := hz5.cell (i := 1) rfl
        have z2 := hz5.cell (i := 2) rfl
        have z3 := hz5.cell (i := 3) rfl
        have z4 := hz5.cell (i := 4) rfl
        have z5 := hz5.cell (i := 5) rfl
        have f0 := hz5.frozen 0
        have f1 := hz5.frozen 1
        have f2 := hz5.frozen 2
        have f3 := hz5.frozen 3
        have f4 := hz5.frozen 4
        have f5 := hz5.frozen 5
        have HZ5 := Lib.hid hz5
        clear hz5 hd5
        by_cases hc : C = 0
        · have hr := HR2.out
          rw [if_neg (by simp [hc])] at hr
          clear HR2
          subst hr
          subst hc
          go_wp2
          exact rr_fin rfl rfl HZ5.out HB5.out (Nat.le_refl _) (fun w' hw' => HV5.out.ext_to (fun b hb => by omega) (fun b hb _ => hw' b (by omega)))
        · have hr := HR2.out
          rw [if_pos hc] at hr
          have hcb : (C != 0) = true := by simpa using hc
          clear HR2 hc
          subst hr
          go_wp2
          exact rr_fin rfl rfl HZ5.out HB5.out (Nat.le_refl _) (fun w' _ => zero_has _ w')
      · have HR2 : Hid (R = (.zero, 11)) := Lib.hid (by rw [HR.out, ← hrest, if_pos (Or.inr (Or.inl hr0))])
        have he : (bs rest).toList.isEmpty = false := by
          rw [tl_bs]
          cases rest with
          | nil => exact absurd rfl hr0
          | cons a l => rfl
        have z0 := hz4.cell (i := 0) rfl
        have z1 := hz4.cell (i := 1) rfl
        have z2 := hz4.cell (i := 2) rfl
        have z3 := hz4.cell (i := 3) rfl
        have z4 := hz4.cell (i := 4) rfl
        have z5 := hz4.cell (i := 5) rfl
        have f0 := hz4.frozen 0
        have f1 := hz4.frozen 1
        have f2 := hz4.frozen 2
        have f3 := hz4.frozen 3
        have f4 := hz4.frozen 4
        have f5 := hz4.frozen 5
        have HZ4 := Lib.hid hz4
        have HB4 := Lib.hid hbw4
        clear hz4 hbw4 hval4 hd4 HR hV hrest hr0
        go_wp2
        rw [HR2.out]
        exact rr_fin rfl rfl HZ4.out HB4.out (Nat.le_refl _) (fun w' _ => zero_has _ w')
end Go.Proofs.YtghkeilgdmnnlaaDoor

/- MerkleOne: of one text the root is shown by nothing; a text more changes where the others stand in nothing. Conditions: at most 2^40 texts, none longer than 2^40 bytes; the tables read as the texts lay them. -/
import Derived.Test.YtfnlehnhcekpkaaDoorMkGp
import Derived.Test.YtfnlehnhcekpkaaDoorMkMade
import Derived.Test.YtfnlehnhcekpkaaDoorMkTrees
import Derived.Test.YtfnlehnhcekpkaaDoorPushArg
set_option linter.unusedVariables false
set_option linter.unusedSimpArgs false
namespace Go.Proofs.YtfnlehnhcekpkaaDoor
open Go Go.RowKit Go.BigFrame
set_option maxRecDepth 100000

theorem one_shows0 (s : List UInt8) : showsB (rootL [s]) s 0 1 [] = true := by
  have h := shows_own (l := [s]) (i := 0) (by simp) (by simp)
  have e : pathV [s] ((0 : Nat) : Int) = [] := by
    unfold pathV
    rw [if_neg (by simp), Int.toNat_natCast, pathD_one (by simp)]
    rfl
  rw [e] at h
  exact h
theorem one_grew {l : List (List UInt8)} (s : List UInt8) (h : l.length < 1024) : grewB (rootL l) (rootL (l ++ [s])) (l.length : Int) ((l.length : Int) + 1) (growV (l ++ [s]) (l.length : Int)) = true := by
  have h1 := (grown_all (l := l ++ [s]) (m := l.length) (by rw [List.length_append, List.length_singleton]; omega) (by rw [List.length_append]; omega)).1
  rw [List.take_left', List.length_append, List.length_singleton] at h1
  · exact h1
  · rfl
theorem one_shows {l : List (List UInt8)} (s : List UInt8) (h : l.length < 1024) : showsB (rootL (l ++ [s])) s (l.length : Int) ((l.length : Int) + 1) (pathV (l ++ [s]) (l.length : Int)) = true := by
  have h1 := shows_own (l := l ++ [s]) (i := l.length) (by rw [List.length_append, List.length_singleton]; omega) (by rw [List.length_append, List.length_singleton]; omega)
  have e : (l ++ [s])[l.length]'(by rw [List.length_append, List.length_singleton]; omega) = s := by simp
  rw [e, List.length_append, List.length_singleton] at h1
  exact h1
set_option maxHeartbeats 8000000 in
theorem one_any (l : List (List UInt8)) (s : List UInt8) (S : Nat → Prop) (p : Option Addr) (cap : Nat) (w : World) (hK : Ks w) (hT : TzT w) (htg : 1 < w.heap.size) (hcap : l.length ≤ cap) (hnone : p = none → cap = 0) (hs : HasS S w p l) (hll : l.length ≤ 1099511627776) (hts : ∀ s ∈ l, s.length ≤ 1099511627776) (hsl : s.length ≤ 1099511627776) :
    Calls Tryd.prog 10 #[.slice p l.length cap, .string (bs s)] w fun e' w' => e' = .returned (.bool true) ∧ Below w.heap.size w w' := by
  have hkl := hK.lt
  have HL := Lib.hid (lives_any w hK hT htg)
  have HK := Lib.hid hK
  have HTS := Lib.hid hts
  have HARG := Lib.hid hs
  have HNONE := Lib.hid hnone
  clear hK hT hs hts hnone
  go_enter Tryd.func10, Tryd.ntmps10
  go_wp2_with fail
  go_at_call 15
  refine HL.out.mono ?_
  rintro e' w1 ⟨rfl, hb⟩
  have HB1 := Lib.hid hb
  have hsz1 := hb.size
  clear hb HL
  by_cases hmany : 1024 ≤ l.length
  · have hmI : (1024 : Int) ≤ (l.length : Int) := by omega
    go_wp2
    go_ret
    exact ⟨rfl, HB1.out⟩
  have hfew : l.length < 1024 := by omega
  have hfI : (l.length : Int) < 1024 := by omega
  clear hmany
  have hb0 : Below w1.heap.size w1 (w1.alloc (.cells #[.string (bs s)] 9)) := (Below.refl _ _).alloc (Nat.le_refl _) _
  have hrow : HasS (fun _ => True) (w1.alloc (.cells #[.string (bs s)] 9)) (some ⟨w1.heap.size, 0, none⟩) [s] := fun i hi => by
    obtain rfl : i = 0 := by have : i < 1 := hi; omega
    exact ⟨w1.heap.size, 0, rfl, trivial, (IsBlk.new _ _ _).lt, (IsBlk.new _ _ _).cell (i := 0) rfl⟩
  have HN1 := Lib.hid (new_any [s] _ (some ⟨w1.heap.size, 0, none⟩) 1 _ hrow (by simp))
  have HB0 := Lib.hid hb0
  clear hb0 hrow
  go_wp2_with fail
  go_at_call 17
  refine HN1.out.mono ?_
  rintro e' w2 ⟨gA, tpA, tcA, rfl, htr, hb'⟩
  have hb := below_ext HB0.out hb'
  have hz0 := HB0.out.size
  obtain ⟨_, _, _, _, hblk⟩ := htr.block
  have hgA := hblk.lt
  have hgeA0 : w1.heap.size ≤ gA := by
    rcases htr with ⟨b, L, h, _⟩ | ⟨h, _⟩
    · exact Nat.le_trans hz0 h
    · exact Nat.le_trans hz0 h
  have hgeA : w.heap.size ≤ gA := by omega
  have HB2 := Lib.hid (HB1.out.trans (hb.mono hsz1))
  have hsz2 := HB2.out.size
  have HTA2 : Hid (TreeIn (fun x => w.heap.size ≤ x ∧ x < w2.heap.size) [s] gA tpA tcA w2) := Lib.hid (htr.ext_to (fun x hx hlt => ⟨Nat.le_trans (Nat.le_trans hsz1 hz0) hx, hlt⟩) (fun _ _ _ => rfl))
  clear htr hb hb' hblk hz0 hgeA0 HB0 HN1
  go_wp2_with fail
  go_at_call 17
  refine (new_any l S p cap w2 (HARG.out.ext HB2.out) (by omega)).mono ?_
  rintro e' w3 ⟨gB, tpB, tcB, rfl, htr, hb⟩
  obtain ⟨_, _, _, _, hblk⟩ := htr.block
  have hgB := hblk.lt
  have hgeB0 : w2.heap.size ≤ gB := by
    rcases htr with ⟨b, L, h, _⟩ | ⟨h, _⟩
    · exact h
    · exact h
  have hgeB : w.heap.size ≤ gB := by omega
  have HB3 := Lib.hid (HB2.out.trans (hb.mono hsz2))
  have hsz3 := HB3.out.size
  have hz23 := hb.size
  have HTA3 := Lib.hid (HTA2.out.ext hb)
  have HTB3 : Hid (TreeIn (fun x => w2.heap.size ≤ x ∧ x < w3.heap.size) l gB tpB tcB w3) := Lib.hid (htr.ext_to (fun x hx hlt => ⟨hx, hlt⟩) (fun _ _ _ => rfl))
  clear htr hb hblk
  have hE : IsBlk (w3.alloc (.cells #[] 9)) w3.heap.size #[] 9 := IsBlk.new _ _ _
  have hO0 : (w3.alloc (.cells #[] 9)).ownsRow w3.heap.size 9 1 (.slice (some ⟨w3.heap.size, 0, none⟩) 0 0) 0 [] := own_lit hE (Nat.le_refl _) rfl (by decide)
  have HO0 := Lib.hid hO0
  have HX0 : Hid (Below w3.heap.size w3 (w3.alloc (.cells #[] 9))) := Lib.hid ((Below.refl _ _).alloc (Nat.le_refl _) _)
  have HS2 := Lib.hid (HARG.out.ext (HB3.out.alloc hsz3 (.cells #[] 9)))
  clear hE hO0
  go_wp2_with (at_builtin; refine push_texts w3.heap.size rfl _ _ rfl (.slice (some ⟨w3.heap.size, 0, none⟩) 0 0) [] HO0.out S p cap l HS2.out HNONE.out rfl rfl (by simp) (by simp; omega) ?_)
  intro v1 w4 hown hg
  have HO1 : Hid (w4.ownsRow w3.heap.size 9 1 v1 l.length (strsV l)) := Lib.hid (by simpa [strsV] using hown)
  have HX1 := Lib.hid (below_grown HX0.out hg (by simp) (fun j hj => (HO0.out.lt j hj).1))
  have hz34 := HX1.out.size
  have HO2 := Lib.hid (own_alloc HO1.out (.cells #[.string (bs s)] 9))
  clear hown hg
  go_wp2_with (at_builtin; refine push_at w3.heap.size rfl _ _ 22 9 (.string (bs [])) 16 rfl Tryd.underlying22 (by kernel_rfl) rfl (by decide) _ l.length _ HO2.out w4.heap.size 1 [.string (bs s)] (IsBlk.new _ _ _) rfl rfl rfl (by simp [Value.oneCell']) (by simp; omega) (by omega) ?_)
  intro v5 w5 hown hg
  have HO5 : Hid (w5.ownsRow w3.heap.size 9 1 v5 (l ++ [s]).length (strsV (l ++ [s]))) := Lib.hid (by simpa [strsV] using hown)
  have hb := below_grown (HX1.out.alloc hz34 (.cells #[.string (bs s)] 9)) hg (by simp; omega) (fun j hj => (HO2.out.lt j hj).1)
  obtain ⟨p5, c5, rfl, hcap5, _, hr5⟩ := hasS_ownN HO5.out
  have hls : (l ++ [s]).length = l.length + 1 := by rw [List.length_append, List.length_singleton]
  have HLS := Lib.hid hls
  have HB5 := Lib.hid (HB3.out.trans (hb.mono hsz3))
  have hsz5 := HB5.out.size
  have hz35 := hb.size
  have HTA5 := Lib.hid (HTA3.out.ext hb)
  have HTB5 := Lib.hid (HTB3.out.ext hb)
  have HR5 := Lib.hid hr5
  have HTS2 : Hid (∀ t ∈ l ++ [s], t.length ≤ 1099511627776) := Lib.hid (fun t ht => by
    rcases List.mem_append.1 ht with h | h
    · exact HTS.out t h
    · rw [List.mem_singleton.1 h]; exact hsl)
  obtain ⟨u, hu⟩ : ∃ u, u = l ++ [s] := ⟨_, rfl⟩
  have HG1 := one_grew s hfew
  have HG2 := one_shows s hfew
  rw [← hu] at HR5 HLS HTS2 hcap5 HG1 HG2 hls
  rw [← hu]
  obtain ⟨GV, hGV⟩ : ∃ GV, GV = growV u (l.length : Int) := ⟨_, rfl⟩
  obtain ⟨PV, hPV⟩ : ∃ PV, PV = pathV u (l.length : Int) := ⟨_, rfl⟩
  have hGE : growE u (l.length : Int) = 0 := by unfold growE; rw [if_neg (by omega)]
  have hPE : pathE u (l.length : Int) = 0 := by unfold pathE; rw [if_neg (by omega)]
  have HGL : Hid (GV.length ≤ 1024 ∧ ∀ x ∈ GV, x.length ≤ 1099511627776) := Lib.hid (by
    refine ⟨by have := growV_length (l := u) (by omega) (l.length : Int); rw [hGV]; omega, fun x hx => ?_⟩
    have hd : dig32 GV = true := by
      rw [hGV]
      cases hd : dig32 (growV u (l.length : Int)) with
      | true => rfl
      | false => rw [grewB_bad hd] at HG1; cases HG1
    unfold dig32 at hd
    rw [List.all_eq_true] at hd
    have := hd x hx
    simp at this
    omega)
  have HPL : Hid (PV.length ≤ 1024 ∧ ∀ x ∈ PV, x.length ≤ 1099511627776) := Lib.hid (by
    refine ⟨by have := pathV_length (l := u) (by omega) (l.length : Int); rw [hPV]; omega, fun x hx => ?_⟩
    have hd : dig32 PV = true := by
      rw [hPV]
      cases hd : dig32 (pathV u (l.length : Int)) with
      | true => rfl
      | false => unfold showsB at HG2; rw [hd, if_pos (by simp)] at HG2; cases HG2
    unfold dig32 at hd
    rw [List.all_eq_true] at hd
    have := hd x hx
    simp at this
    omega)
  rw [← hGV] at HG1
  rw [← hPV] at HG2
  have HGV := Lib.hid hGV
  have HPV := Lib.hid hPV
  have HGE := Lib.hid hGE
  have HPE := Lib.hid hPE
  have HGR := Lib.hid HG1
  have HSH := Lib.hid HG2
  have hul : u.length ≤ 1024 := by omega
  clear hown hg hb hr5 hu hGV hPV hGE hPE HG1 HG2 hls
  go_wp2_with fail
  go_at_call 17
  refine (new_any u _ p5 c5 w5 HR5.out hul).mono ?_
  rintro e' w6 ⟨gC, tpC, tcC, rfl, htr, hb⟩
  obtain ⟨_, _, _, _, hblk⟩ := htr.block
  have hgC6 := hblk.lt
  have hgeC0 : w5.heap.size ≤ gC := by
    rcases htr with ⟨b, L, h, _⟩ | ⟨h, _⟩
    · exact h
    · exact h
  have hgeC : w.heap.size ≤ gC := by omega
  have HB6 := Lib.hid (HB5.out.trans (hb.mono hsz5))
  have hsz6 := HB6.out.size
  have hz56 := hb.size
  have hgA6 : gA < w6.heap.size := by omega
  have hgB6 : gB < w6.heap.size := by omega
  have HTA6 : Hid (TreeIn (fun x => w.heap.size ≤ x ∧ x ≠ gB ∧ x ≠ gC) [s] gA tpA tcA w6) := Lib.hid ((HTA5.out.ext hb).ext_to (fun x hx hlt => ⟨hx.1, by have := hx.2; omega, by have := hx.2; omega⟩) (fun _ _ _ => rfl))
  have HTB6 : Hid (TreeIn (fun x => w.heap.size ≤ x ∧ x ≠ gA ∧ x ≠ gC) l gB tpB tcB w6) := Lib.hid ((HTB5.out.ext hb).ext_to (fun x hx hlt => ⟨by have := hx.1; omega, by have := hx.1; omega, by have := hx.2; omega⟩) (fun _ _ _ => rfl))
  have HTC6 : Hid (TreeIn (fun x => w.heap.size ≤ x ∧ x ≠ gA ∧ x ≠ gB) u gC tpC tcC w6) := Lib.hid (htr.ext_to (fun x hx hlt => ⟨by omega, by omega, by omega⟩) (fun _ _ _ => rfl))
  have HONE : Hid (∀ t ∈ [s], t.length ≤ 1099511627776) := Lib.hid (fun t ht => by rw [List.mem_singleton.1 ht]; exact hsl)
  have hul2 : u.length ≤ 1099511627776 := by omega
  clear htr hb hblk HTA2 HTA3 HTA5 HTB3 HTB5 HO0 HO1 HO2 HO5 HX0 HX1 HS2 hz34
  go_wp2_with fail
  go_at_call 18
  refine (root_any (fun x => w.heap.size ≤ x ∧ x ≠ gB ∧ x ≠ gC) [s] gA tpA tcA w6 (HK.out.ext HB6.out) (by omega) (by simp) HONE.out HTA6.out (fun x hx => by omega)).mono ?_
  rintro e' w7 ⟨rfl, b, hk, hb, L', hm⟩
  have htr : TreeIn (fun x => w.heap.size ≤ x ∧ x ≠ gB ∧ x ≠ gC) [s] gA tpA tcA w7 := .inl ⟨b, L', hm⟩
  have HB7 := Lib.hid (HB6.out.trans (hb.mono hgeA))
  have HTA7 := Lib.hid htr
  have HTB7 := Lib.hid (HTB6.out.ext_to (fun x hx _ => hx) (fun x hx hlt => hk.2 x hlt (by omega)))
  have HTC7 := Lib.hid (HTC6.out.ext_to (fun x hx _ => hx) (fun x hx hlt => hk.2 x hlt (by omega)))
  have hgA7 : gA < w7.heap.size := by have := hk.1; omega
  have hgB7 : gB < w7.heap.size := by have := hk.1; omega
  have hgC7 : gC < w7.heap.size := by have := hk.1; omega
  have hsz7 := HB7.out.size
  clear hk hb hm htr
  go_wp2_with fail
  go_at_call 21
  refine (shows_any (rootL [s]) s 0 1 [] (fun _ => True) none 0 w7 (HK.out.ext HB7.out) (by rw [rootL_len]; omega) hsl (fun i hi => by simp at hi) (by simp) (by simp)).mono ?_
  rintro e' w8 ⟨rfl, hb⟩
  rw [one_shows0]
  have HB8 := Lib.hid (HB7.out.trans (hb.mono hsz7))
  have HTA8 := Lib.hid (HTA7.out.ext hb)
  have HTB8 := Lib.hid (HTB7.out.ext hb)
  have HTC8 := Lib.hid (HTC7.out.ext hb)
  have hgA8 : gA < w8.heap.size := by have := hb.size; omega
  have hgB8 : gB < w8.heap.size := by have := hb.size; omega
  have hgC8 : gC < w8.heap.size := by have := hb.size; omega
  have hsz8 := HB8.out.size
  clear hb
  go_wp2_with fail
  go_at_call 25
  have hc := growth_tot (fun x => w.heap.size ≤ x ∧ x ≠ gA ∧ x ≠ gB) u gC tpC tcC ((l.length : Int)) w8 (HK.out.ext HB8.out) (by omega) (by omega) HTS2.out HTC8.out (fun x hx => by omega)
  rw [← HGV.out, HGE.out] at hc
  refine hc.mono ?_
  clear hc
  rintro e' w9 ⟨v, rfl, hown, hk, hb, htr⟩
  obtain ⟨pGa, cGa, rfl, hcapGa, hnoneGa, hrow⟩ := hasS_ownN (l := GV) hown
  have HB9 := Lib.hid (HB8.out.trans (hb.mono hgeC))
  have HTC9 := Lib.hid htr
  have HTA9 := Lib.hid (HTA8.out.ext_to (fun x hx _ => hx) (fun x hx hlt => hk.2 x hlt (by omega)))
  have HTB9 := Lib.hid (HTB8.out.ext_to (fun x hx _ => hx) (fun x hx hlt => hk.2 x hlt (by omega)))
  have hgA9 : gA < w9.heap.size := by have := hk.1; omega
  have hgB9 : gB < w9.heap.size := by have := hk.1; omega
  have hgC9 : gC < w9.heap.size := by have := hk.1; omega
  have hsz9 := HB9.out.size
  have HRGa9 : Hid (HasS (fun x => x ≠ gA ∧ x ≠ gB ∧ x ≠ gC) w9 pGa GV) := Lib.hid (hrow.ext_to (fun x hx => by omega) (fun _ _ _ => rfl))
  clear hown hk hb htr hrow
  go_wp2_with fail
  go_at_call 19
  have hc := path_tot (fun x => w.heap.size ≤ x ∧ x ≠ gA ∧ x ≠ gB) u gC tpC tcC ((l.length : Int)) w9 (HK.out.ext HB9.out) (by omega) (by omega) HTS2.out HTC9.out (fun x hx => by omega)
  rw [← HPV.out, HPE.out] at hc
  refine hc.mono ?_
  clear hc
  rintro e' w10 ⟨v, rfl, hown, hk, hb, htr⟩
  obtain ⟨pPa, cPa, rfl, hcapPa, hnonePa, hrow⟩ := hasS_ownN (l := PV) hown
  have HB10 := Lib.hid (HB9.out.trans (hb.mono hgeC))
  have HTC10 := Lib.hid htr
  have HTA10 := Lib.hid (HTA9.out.ext_to (fun x hx _ => hx) (fun x hx hlt => hk.2 x hlt (by omega)))
  have HTB10 := Lib.hid (HTB9.out.ext_to (fun x hx _ => hx) (fun x hx hlt => hk.2 x hlt (by omega)))
  have HRGa10 := Lib.hid (HRGa9.out.ext_to (fun _ h => h) (fun x hx hlt => hk.2 x hlt (by omega)))
  have hgA10 : gA < w10.heap.size := by have := hk.1; omega
  have hgB10 : gB < w10.heap.size := by have := hk.1; omega
  have hgC10 : gC < w10.heap.size := by have := hk.1; omega
  have hsz10 := HB10.out.size
  have HRPa10 : Hid (HasS (fun x => x ≠ gA ∧ x ≠ gB ∧ x ≠ gC) w10 pPa PV) := Lib.hid (hrow.ext_to (fun x hx => by omega) (fun _ _ _ => rfl))
  clear hown hk hb htr hrow
  go_wp2_with fail
  go_at_call 18
  refine (root_any (fun x => w.heap.size ≤ x ∧ x ≠ gA ∧ x ≠ gC) l gB tpB tcB w10 (HK.out.ext HB10.out) (by omega) (by omega) HTS.out HTB10.out (fun x hx => by omega)).mono ?_
  rintro e' w11 ⟨rfl, b, hk, hb, L', hm⟩
  have htr : TreeIn (fun x => w.heap.size ≤ x ∧ x ≠ gA ∧ x ≠ gC) l gB tpB tcB w11 := .inl ⟨b, L', hm⟩
  have HB11 := Lib.hid (HB10.out.trans (hb.mono hgeB))
  have HTB11 := Lib.hid htr
  have HTA11 := Lib.hid (HTA10.out.ext_to (fun x hx _ => hx) (fun x hx hlt => hk.2 x hlt (by omega)))
  have HTC11 := Lib.hid (HTC10.out.ext_to (fun x hx _ => hx) (fun x hx hlt => hk.2 x hlt (by omega)))
  have HRGa11 := Lib.hid (HRGa10.out.ext_to (fun _ h => h) (fun x hx hlt => hk.2 x hlt (by omega)))
  have HRPa11 := Lib.hid (HRPa10.out.ext_to (fun _ h => h) (fun x hx hlt => hk.2 x hlt (by omega)))
  have hgA11 : gA < w11.heap.size := by have := hk.1; omega
  have hgB11 : gB < w11.heap.size := by have := hk.1; omega
  have hgC11 : gC < w11.heap.size := by have := hk.1; omega
  have hsz11 := HB11.out.size
  clear hk hb hm htr
  go_wp2_with fail
  go_at_call 18
  refine (root_any (fun x => w.heap.size ≤ x ∧ x ≠ gA ∧ x ≠ gB) u gC tpC tcC w11 (HK.out.ext HB11.out) (by omega) (by omega) HTS2.out HTC11.out (fun x hx => by omega)).mono ?_
  rintro e' w12 ⟨rfl, b, hk, hb, L', hm⟩
  have htr : TreeIn (fun x => w.heap.size ≤ x ∧ x ≠ gA ∧ x ≠ gB) u gC tpC tcC w12 := .inl ⟨b, L', hm⟩
  have HB12 := Lib.hid (HB11.out.trans (hb.mono hgeC))
  have HTC12 := Lib.hid htr
  have HTA12 := Lib.hid (HTA11.out.ext_to (fun x hx _ => hx) (fun x hx hlt => hk.2 x hlt (by omega)))
  have HTB12 := Lib.hid (HTB11.out.ext_to (fun x hx _ => hx) (fun x hx hlt => hk.2 x hlt (by omega)))
  have HRGa12 := Lib.hid (HRGa11.out.ext_to (fun _ h => h) (fun x hx hlt => hk.2 x hlt (by omega)))
  have HRPa12 := Lib.hid (HRPa11.out.ext_to (fun _ h => h) (fun x hx hlt => hk.2 x hlt (by omega)))
  have hgA12 : gA < w12.heap.size := by have := hk.1; omega
  have hgB12 : gB < w12.heap.size := by have := hk.1; omega
  have hgC12 : gC < w12.heap.size := by have := hk.1; omega
  have hsz12 := HB12.out.size
  clear hk hb hm htr
  go_wp2_with fail
  go_at_call 28
  refine (grew_any (rootL l) (rootL u) (l.length : Int) ((l.length : Int) + 1) GV _ pGa cGa w12 (HK.out.ext HB12.out) (by rw [rootL_len]; omega) (by rw [rootL_len]; omega) HRGa12.out hcapGa (by have := HGL.out.1; omega) HGL.out.2).mono ?_
  rintro e' w13 ⟨rfl, hb⟩
  rw [HGR.out]
  have HB13 := Lib.hid (HB12.out.trans (hb.mono hsz12))
  have HTA13 := Lib.hid (HTA12.out.ext hb)
  have HTB13 := Lib.hid (HTB12.out.ext hb)
  have HTC13 := Lib.hid (HTC12.out.ext hb)
  have HRGa13 := Lib.hid (HRGa12.out.ext hb)
  have HRPa13 := Lib.hid (HRPa12.out.ext hb)
  have hgA13 : gA < w13.heap.size := by have := hb.size; omega
  have hgB13 : gB < w13.heap.size := by have := hb.size; omega
  have hgC13 : gC < w13.heap.size := by have := hb.size; omega
  have hsz13 := HB13.out.size
  clear hb
  go_wp2_with fail
  go_at_call 18
  refine (root_any (fun x => w.heap.size ≤ x ∧ x ≠ gA ∧ x ≠ gB) u gC tpC tcC w13 (HK.out.ext HB13.out) (by omega) (by omega) HTS2.out HTC13.out (fun x hx => by omega)).mono ?_
  rintro e' w14 ⟨rfl, b, hk, hb, L', hm⟩
  have htr : TreeIn (fun x => w.heap.size ≤ x ∧ x ≠ gA ∧ x ≠ gB) u gC tpC tcC w14 := .inl ⟨b, L', hm⟩
  have HB14 := Lib.hid (HB13.out.trans (hb.mono hgeC))
  have HTC14 := Lib.hid htr
  have HTA14 := Lib.hid (HTA13.out.ext_to (fun x hx _ => hx) (fun x hx hlt => hk.2 x hlt (by omega)))
  have HTB14 := Lib.hid (HTB13.out.ext_to (fun x hx _ => hx) (fun x hx hlt => hk.2 x hlt (by omega)))
  have HRGa14 := Lib.hid (HRGa13.out.ext_to (fun _ h => h) (fun x hx hlt => hk.2 x hlt (by omega)))
  have HRPa14 := Lib.hid (HRPa13.out.ext_to (fun _ h => h) (fun x hx hlt => hk.2 x hlt (by omega)))
  have hgA14 : gA < w14.heap.size := by have := hk.1; omega
  have hgB14 : gB < w14.heap.size := by have := hk.1; omega
  have hgC14 : gC < w14.heap.size := by have := hk.1; omega
  have hsz14 := HB14.out.size
  clear hk hb hm htr
  go_wp2_with fail
  go_at_call 21
  refine (shows_any (rootL u) s (l.length : Int) ((l.length : Int) + 1) PV _ pPa cPa w14 (HK.out.ext HB14.out) (by rw [rootL_len]; omega) hsl HRPa14.out (by have := HPL.out.1; omega) HPL.out.2).mono ?_
  rintro e' w15 ⟨rfl, hb⟩
  rw [HSH.out]
  have HB15 := Lib.hid (HB14.out.trans (hb.mono hsz14))
  have HTA15 := Lib.hid (HTA14.out.ext hb)
  have HTB15 := Lib.hid (HTB14.out.ext hb)
  have HTC15 := Lib.hid (HTC14.out.ext hb)
  have HRGa15 := Lib.hid (HRGa14.out.ext hb)
  have HRPa15 := Lib.hid (HRPa14.out.ext hb)
  have hgA15 : gA < w15.heap.size := by have := hb.size; omega
  have hgB15 : gB < w15.heap.size := by have := hb.size; omega
  have hgC15 : gC < w15.heap.size := by have := hb.size; omega
  have hsz15 := HB15.out.size
  clear hb
  go_wp2
  go_ret
  exact ⟨rfl, HB15.out⟩
end Go.Proofs.YtfnlehnhcekpkaaDoor

/- strings.Builder: copyCheck, WriteByte: contracts at a builder that the call itself has made. No conditions. -/
import Derived.Test.YtpnahmbhpbdpiaaDoorOwn
import Derived.Test.YtpnahmbhpbdpiaaDoorShelf
import Derived.Lib.Builder
import Derived.WalkKit
import Derived.WalkSpells
import Derived.WalkLawsBesides
import Derived.Outline
set_option linter.unusedVariables false
set_option linter.unusedSimpArgs false
namespace Go.Proofs.YtpnahmbhpbdpiaaDoor
open Go Go.RowKit
set_option maxRecDepth 100000

theorem copyCheck_any (B b : Nat) (bs : List Value) (w : World) (h : Lib.IsBuilder 45 5 B b bs w) :
    Calls Tryd.prog 27 #[.pointer (some ⟨b, 0, none⟩)] w fun e w' => e = .returned (.tuple #[]) ∧ (Lib.BuilderAt 45 5 B b (.pointer (some ⟨b, 0, none⟩)) bs w' ∧ Below B w w') := by
  have hi : (Tryd.prog.info? 45).map (·.size) = some 2 := by kernel_rfl
  obtain ⟨j, hj, hjs⟩ := Option.map_eq_some_iff.1 hi
  have hlies : liesAt Tryd.prog Tryd.prog.depth 45 (2 / Tryd.prog.cellsOf 45) 0 45 1 = true := by kernel_rfl
  rcases h with h | h
  · have h0 := h.cell0
    have hsh := h.shape
    have hfz := h.frozen0
    have H := Lib.hid h; clear h
    go_enter Tryd.func27, Tryd.ntmps27
    go_wp2
    rw [Lib.run_to_unsafe w ⟨b, 0, none⟩ Tryd.underlying42 Tryd.underlying61 hj (by rw [hjs]; decide) hsh (Nat.zero_lt_succ 1)]
    simp only [Result.andThen]
    rw [Oper.upon_value]
    go_wp2
    rw [run_callFunc_extern Tryd.func31 (by kernel_rfl) (by kernel_rfl) (by kernel_rfl) (e := Extern.AbiNoEscape.same) (by kernel_rfl)]
    rw [Lib.run_noEscape]
    simp only [Result.andThen]
    rw [Oper.upon_value]
    go_wp2
    rw [Lib.run_from_unsafe w ⟨b, 0, none⟩ Tryd.underlying61 Tryd.underlying42 hj hsh hlies]
    simp only [Result.andThen]
    rw [Oper.upon_value]
    go_wp2
    go_end0
    exact ⟨rfl, H.out.used _, (Below.refl B w).setCell (p := ⟨b, 0, none⟩) H.out.1 _⟩
  · have h0 := h.cell0
    have H := Lib.hid h; clear h
    go_enter Tryd.func27, Tryd.ntmps27
    go_wp2
    rw [Lib.run_neq_ptr_same w _ Tryd.underlying42 hj]
    go_wp2
    go_end0
    exact ⟨rfl, H.out, Below.refl B _⟩

set_option maxHeartbeats 1000000 in
theorem writeByte_any (B b : Nat) (bs : List Value) (c : Int) (w : World) (h : Lib.IsBuilder 45 5 B b bs w) (hlen : bs.length + 1 ≤ 140737488355328) (hBw : B ≤ w.heap.size) :
    Calls Tryd.prog 21 #[.pointer (some ⟨b, 0, none⟩), .int .u8 c] w fun e w' => e = .returned .nilIface ∧ (Lib.BuilderAt 45 5 B b (.pointer (some ⟨b, 0, none⟩)) (bs ++ [.int .u8 c]) w' ∧ Below B w w') := by
  go_enter Tryd.func21, Tryd.ntmps21
  go_wp2_with fail
  go_at_call 27
  refine (copyCheck_any B b bs _ h).mono ?_
  rintro e w1 ⟨rfl, h1, hb1⟩
  obtain ⟨hB, v, hbk, hown, hne⟩ := h1
  have c0 : w1.cell? ⟨b, 0, none⟩ = some (.pointer (some ⟨b, 0, none⟩)) := by rw [Lib.cell_of_heap hbk]; rfl
  have c1 : w1.cell? ⟨b, 1, none⟩ = some v := by rw [Lib.cell_of_heap hbk]; rfl
  have hsz1 : B ≤ w1.heap.size := by have := hb1.size; omega
  have HK := Lib.hid hbk; clear hbk
  have HO := Lib.hid hown; clear hown
  have HN := Lib.hid hne; clear hne
  have HB1 := Lib.hid hb1; clear hb1
  go_wp2_with (at_builtin; refine push_one B rfl _ _ 43 5 (.int .u8 0) 1 rfl Tryd.underlying43 (by kernel_rfl) rfl (by decide) _ _ HO.out _ rfl rfl rfl hsz1 (by omega) ?_)
  intro v' w2 hown' hg'
  have hlt : b < w1.heap.size := (show IsBlk w1 b _ _ from HK.out).lt
  have hb2 : IsBlk w2 b #[.pointer (some ⟨b, 0, none⟩), v] 45 := blk_grown HK.out hg' HN.out
  have d1 : w2.cell? ⟨b, 1, none⟩ = some v := hb2.cell rfl
  have f1 : w2.frozen? ⟨b, 1, none⟩ = false := hb2.frozen 1
  obtain ⟨g, cap, rfl⟩ : ∃ g cap, v' = .slice (some ⟨g, 0, none⟩) (bs.length + 1) cap := by
    rcases hown'.2 with ⟨_, h0⟩ | ⟨g, cap, cur, hv, _⟩
    · omega
    · exact ⟨g, cap, hv⟩
  have HO2 := Lib.hid hown'; clear hown'
  have HG := Lib.hid hg'; clear hg'
  have H2 := Lib.hid hb2; clear hb2
  go_wp2
  go_ret
  refine ⟨rfl, ?_, ?_⟩
  · exact Lib.BuilderAt.put (T := 45) (e := 5) hB H2.out (bs' := bs ++ [.int .u8 c]) (by simpa using HO2.out) (by decide)
  · exact ((HB1.out.grown HG.out hsz1 (fun k hk => (HO.out.lt k hk).1)).setCell (p := ⟨b, 1, none⟩) hB _)
end Go.Proofs.YtpnahmbhpbdpiaaDoor

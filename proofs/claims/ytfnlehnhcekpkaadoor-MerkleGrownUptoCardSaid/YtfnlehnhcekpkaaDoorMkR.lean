/- slices.Reverse of texts that a call owns. Conditions: at most 2^40 texts. -/
import Derived.Test.YtfnlehnhcekpkaaDoorMkA
set_option linter.unusedVariables false
set_option linter.unusedSimpArgs false
namespace Go.Proofs.YtfnlehnhcekpkaaDoor
open Go Go.RowKit Go.BigFrame
set_option maxRecDepth 100000

def strsV (l : List (List UInt8)) : List Value := l.map fun s => Value.string (bs s)
theorem strsV_length (l : List (List UInt8)) : (strsV l).length = l.length := by simp [strsV]
theorem revs_any (B : Nat) (l : List (List UInt8)) (v : Value) (w : World) (h : w.ownsRow B 9 1 v l.length (strsV l)) (hn : l.length ≤ 1099511627776) :
    Calls Tryd.prog 42 #[v] w fun e' w' => e' = .returned (.tuple #[]) ∧ w'.ownsRow B 9 1 v l.length (strsV l.reverse) ∧ Below B w w' := by
  rcases h.2 with ⟨rfl, h0⟩ | ⟨g, cap, cur, rfl, hb, hg, hnc, hcm, hcs, hx⟩
  · obtain rfl : l = [] := List.eq_nil_of_length_eq_zero h0
    exact (Tryd.slices_Reverse_string_empty none 0 w).mono (by rintro e w1 ⟨rfl, rfl⟩; exact ⟨rfl, h, Below.refl _ _⟩)
  · have hg' : IsBlk w g cur 9 := hg
    have hcur : ∀ j, j < l.length → cur[j]? = some (.string (bs (l.getD j []))) := fun k hk => by
      have h1 : (cur.toList.take (l.length * 1))[k]? = (strsV l)[k]? := by rw [hx]
      rw [List.getElem?_take, if_pos (by omega), Array.getElem?_toList] at h1
      rw [h1, strsV, List.getElem?_map, List.getElem?_eq_getElem hk]
      simp [List.getD_eq_getElem?_getD, hk]
    refine (Tryd.slices_Reverse_string g 0 cap l w (fun j hj => ?_) (by omega)).mono ?_
    · have hj' : j < l.length := by simpa using hj
      refine ⟨?_, by rw [Nat.zero_add]; exact hg'.frozen j⟩
      rw [Nat.zero_add, hg'.cell (hcur j hj')]
      congr 1
      rw [getElem!_pos l.toArray j (by simpa using hj')]
      simp [List.getD_eq_getElem?_getD, hj']
      rfl
    · rintro e w1 ⟨rfl, n, rfl⟩
      have hblk : IsBlk (Sort.putRow encStr (Sort.ahead w n) g 0 l.reverse.toArray) g (Sort.putCells encStr 0 l.reverse.toArray cur) 9 := by
        unfold IsBlk Sort.putRow Sort.mapBlock
        rw [Array.getElem?_modify, if_pos rfl]
        rw [show (Sort.ahead w n).heap[g]? = _ from hg]
        rfl
      refine ⟨rfl, ⟨by simp [strsV], .inr ⟨g, cap, _, rfl, hb, hblk, hnc, hcm, by simp [Sort.putCells]; omega, ?_⟩⟩, ?_⟩
      · apply List.ext_getElem?
        intro k
        rw [List.getElem?_take]
        by_cases hkn : k < l.length
        · rw [if_pos (by omega), Array.getElem?_toList, Sort.putCells, Array.getElem?_mapIdx, hcur k hkn, strsV, List.getElem?_map, List.getElem?_reverse (by omega)]
          have hk2 : l.length - 1 - k < l.length := by omega
          simp only [Option.map_some, Nat.zero_le, Nat.zero_add, true_and, Nat.sub_zero]
          rw [if_pos (by simpa using hkn), getElem!_pos l.reverse.toArray k (by simpa using hkn), List.getElem?_eq_getElem hk2]
          simp [encStr]
          rfl
        · rw [if_neg (by omega), strsV, List.getElem?_map, List.getElem?_eq_none (by simp; omega)]
          rfl
      · refine ⟨rfl, rfl, rfl, ?_, fun b hbB => ?_⟩
        · show _ ≤ ((Sort.ahead w n).heap.modify g _).size
          rw [Array.size_modify]; exact Nat.le_refl _
        · show ((Sort.ahead w n).heap.modify g _)[b]? = _
          rw [Array.getElem?_modify, if_neg (by omega)]
          rfl
end Go.Proofs.YtfnlehnhcekpkaaDoor

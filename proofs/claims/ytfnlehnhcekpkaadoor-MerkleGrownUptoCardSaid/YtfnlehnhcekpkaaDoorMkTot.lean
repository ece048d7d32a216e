/- Path and Growth and the document's at any number. Conditions: at most 2^40 texts, none longer than 2^40 bytes; the table of constants reads as the text lays it. -/
import Derived.Test.YtfnlehnhcekpkaaDoorMkL
set_option linter.unusedVariables false
set_option linter.unusedSimpArgs false
namespace Go.Proofs.YtfnlehnhcekpkaaDoor
open Go Go.RowKit Go.BigFrame
set_option maxRecDepth 100000

def pathV (l : List (List UInt8)) (i : Int) : List (List UInt8) := if i < 0 ∨ (l.length : Int) ≤ i then [] else (pathD l 0 l.length i.toNat).reverse
def pathE (l : List (List UInt8)) (i : Int) : Int := if i < 0 ∨ (l.length : Int) ≤ i then 2 else 0
def growV (l : List (List UInt8)) (i : Int) : List (List UInt8) := if i ≤ 0 ∨ (l.length : Int) ≤ i then [] else (growD l 0 l.length i.toNat).reverse
def growE (l : List (List UInt8)) (i : Int) : Int := if i < 0 ∨ (l.length : Int) < i then 2 else 0
theorem path_tot (S : Nat → Prop) (texts : List (List UInt8)) (g : Nat) (tp : Option Addr) (cap : Nat) (i : Int) (w : World) (hK : Ks w) (hkg : 2 ≠ g) (htl : texts.length ≤ 1099511627776) (hts : ∀ s ∈ texts, s.length ≤ 1099511627776)
    (h : TreeIn S texts g tp cap w) (hS : ∀ x, w.heap.size ≤ x → S x) :
    Calls Tryd.prog 19 #[.pointer (some ⟨g, 0, none⟩), .int .i64 i] w fun e' w' => ∃ v, e' = .returned (.tuple #[v, .int .i64 (pathE texts i)]) ∧ w'.ownsRow w.heap.size 9 1 v (pathV texts i).length (strsV (pathV texts i)) ∧ KeptG g w w' ∧ Below g w w' ∧ TreeIn S texts g tp cap w' := by
  unfold pathV pathE
  by_cases hi : i < 0 ∨ (texts.length : Int) ≤ i
  · rw [if_pos hi, if_pos hi]
    refine (path_out texts S g tp cap i w h hi).mono ?_
    rintro e w1 ⟨rfl, rfl⟩
    exact ⟨_, rfl, ⟨rfl, Or.inl ⟨rfl, rfl⟩⟩, KeptG.refl _ _, Below.refl _ _, h⟩
  · rw [if_neg hi, if_neg hi]
    obtain ⟨k, rfl⟩ : ∃ k : Nat, i = (k : Int) := ⟨i.toNat, by omega⟩
    rw [Int.toNat_natCast, List.length_reverse]
    exact path_in S texts g tp cap k w hK hkg htl hts h hS (by omega)
theorem growth_tot (S : Nat → Prop) (texts : List (List UInt8)) (g : Nat) (tp : Option Addr) (cap : Nat) (i : Int) (w : World) (hK : Ks w) (hkg : 2 ≠ g) (htl : texts.length ≤ 1099511627776) (hts : ∀ s ∈ texts, s.length ≤ 1099511627776)
    (h : TreeIn S texts g tp cap w) (hS : ∀ x, w.heap.size ≤ x → S x) :
    Calls Tryd.prog 25 #[.pointer (some ⟨g, 0, none⟩), .int .i64 i] w fun e' w' => ∃ v, e' = .returned (.tuple #[v, .int .i64 (growE texts i)]) ∧ w'.ownsRow w.heap.size 9 1 v (growV texts i).length (strsV (growV texts i)) ∧ KeptG g w w' ∧ Below g w w' ∧ TreeIn S texts g tp cap w' := by
  unfold growV growE
  by_cases hi : i < 0 ∨ (texts.length : Int) < i
  · rw [if_pos hi, if_pos (by omega)]
    refine (growth_out texts S g tp cap i w h hi).mono ?_
    rintro e w1 ⟨rfl, rfl⟩
    exact ⟨_, rfl, ⟨rfl, Or.inl ⟨rfl, rfl⟩⟩, KeptG.refl _ _, Below.refl _ _, h⟩
  · rw [if_neg hi]
    obtain ⟨k, rfl⟩ : ∃ k : Nat, i = (k : Int) := ⟨i.toNat, by omega⟩
    by_cases he : k = 0 ∨ k = texts.length
    · rw [if_pos (by omega)]
      refine (growth_ends texts S g tp cap k w h he).mono ?_
      rintro e w1 ⟨rfl, rfl⟩
      exact ⟨_, rfl, ⟨rfl, Or.inl ⟨rfl, rfl⟩⟩, KeptG.refl _ _, Below.refl _ _, h⟩
    · rw [if_neg (by omega), Int.toNat_natCast, List.length_reverse]
      exact growth_in S texts g tp cap k w hK hkg htl hts h hS (by omega) (by omega)
theorem rpath_tot (l : List (List UInt8)) (i : Int) (S : Nat → Prop) (p : Option Addr) (c : Nat) (w : World) (hc : l.length ≤ c) (htl : l.length ≤ 1099511627776) (hs : HasS S w p l) (hts : ∀ s ∈ l, s.length ≤ 1099511627776) :
    Calls Tryd.prog 20 #[.slice p l.length c, .int .i64 i] w fun e' w' => ∃ v, e' = .returned (.tuple #[v, .int .i64 (pathE l i)]) ∧ w'.ownsRow w.heap.size 9 1 v (pathV l i).length (strsV (pathV l i)) ∧ Below w.heap.size w w' := by
  unfold pathV pathE
  by_cases hi : i < 0 ∨ (l.length : Int) ≤ i
  · rw [if_pos hi, if_pos hi]
    refine (rpath_out l.length p c i w hi).mono ?_
    rintro e w1 ⟨rfl, rfl⟩
    exact ⟨_, rfl, ⟨rfl, Or.inl ⟨rfl, rfl⟩⟩, Below.refl _ _⟩
  · rw [if_neg hi, if_neg hi]
    obtain ⟨k, rfl⟩ : ∃ k : Nat, i = (k : Int) := ⟨i.toNat, by omega⟩
    rw [Int.toNat_natCast, List.length_reverse]
    exact rpath_in l k S p c w (by omega) hc htl hs hts
theorem rgrowth_tot (l : List (List UInt8)) (i : Int) (S : Nat → Prop) (p : Option Addr) (c : Nat) (w : World) (hc : l.length ≤ c) (htl : l.length ≤ 1099511627776) (hs : HasS S w p l) (hts : ∀ s ∈ l, s.length ≤ 1099511627776) :
    Calls Tryd.prog 26 #[.slice p l.length c, .int .i64 i] w fun e' w' => ∃ v, e' = .returned (.tuple #[v, .int .i64 (growE l i)]) ∧ w'.ownsRow w.heap.size 9 1 v (growV l i).length (strsV (growV l i)) ∧ Below w.heap.size w w' := by
  unfold growV growE
  by_cases hi : i < 0 ∨ (l.length : Int) < i
  · rw [if_pos hi, if_pos (by omega)]
    refine (rgrowth_out l.length p c i w hi).mono ?_
    rintro e w1 ⟨rfl, rfl⟩
    exact ⟨_, rfl, ⟨rfl, Or.inl ⟨rfl, rfl⟩⟩, Below.refl _ _⟩
  · rw [if_neg hi]
    obtain ⟨k, rfl⟩ : ∃ k : Nat, i = (k : Int) := ⟨i.toNat, by omega⟩
    by_cases he : k = 0 ∨ k = l.length
    · rw [if_pos (by omega)]
      refine (rgrowth_ends l.length p c k w he).mono ?_
      rintro e w1 ⟨rfl, rfl⟩
      exact ⟨_, rfl, ⟨rfl, Or.inl ⟨rfl, rfl⟩⟩, Below.refl _ _⟩
    · rw [if_neg (by omega), Int.toNat_natCast, List.length_reverse]
      exact rgrowth_in l k S p c w (by omega) (by omega) hc htl hs hts
end Go.Proofs.YtfnlehnhcekpkaaDoor

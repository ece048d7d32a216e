/- Rows of bytes that a call owns; their conversion into a string. No conditions. -/
import Derived.Test.YthcojmpigdojoaaDoorWords
import Derived.Test.YthcojmpigdojoaaDoorProg
import Derived.WalkKit
import Derived.Laws.BytesArg
import Derived.Laws.MakeOwn
import Derived.Laws.OwnMore
import Derived.OwnWalk
import Derived.Maps.AppendAt
set_option linter.unusedVariables false
set_option linter.unusedSimpArgs false
namespace Go.Proofs.YthcojmpigdojoaaDoor
open Go Go.RowKit

def bs (l : List UInt8) : ByteArray := ⟨l.toArray⟩
theorem bs_of {s : ByteArray} {l : List UInt8} (h : s.data.toList = l) : s = bs l := by
  subst h
  rfl
theorem bs_toList (l : List UInt8) : (bs l).data.toList = l := rfl
theorem bs_size (l : List UInt8) : (bs l).size = l.length := by
  show l.toArray.size = _
  simp
theorem ba_size (s : ByteArray) : s.size = s.data.toList.length := by
  show s.data.size = _
  simp
theorem bs_app (l m : List UInt8) : bs l ++ bs m = bs (l ++ m) := bs_of (by simp [bs_toList])
theorem bs_inj {l m : List UInt8} (h : bs l = bs m) : l = m := by
  have := congrArg (fun s : ByteArray => s.data.toList) h
  exact this

def u8s (l : List UInt8) : List Value := l.map fun b => .int .u8 (b.toNat : Int)
theorem u8s_length (l : List UInt8) : (u8s l).length = l.length := by simp [u8s]
theorem u8s_append (l m : List UInt8) : u8s (l ++ m) = u8s l ++ u8s m := by simp [u8s]
theorem u8s_one (b : UInt8) : u8s [b] = [.int .u8 (b.toNat : Int)] := rfl
theorem u8_of {n : Int} (h0 : 0 ≤ n) (h : n < 256) : n = ((UInt8.ofNat n.toNat).toNat : Int) := by
  rw [UInt8.toNat_ofNat']
  omega
theorem strOfNums_u8 (l : List UInt8) : strOfNums (l.map fun b => (b.toNat : Int)) = bs l := by
  apply bs_of
  rw [strOfNums_data, List.map_map]
  conv => rhs; rw [← List.map_id l]
  apply List.map_congr_left
  intro b _
  simp

end Go.Proofs.YthcojmpigdojoaaDoor

/- Several texts in one: what the claim's last text rests on. No conditions. -/
import Derived.Test.YtaomjndfjmfelaaMWo3
import Derived.Laws.Strings
import Derived.WideShapes
section
namespace Go.Proofs.Ytaomjndfjmfelaa.Byt
set_option linter.unusedVariables false
open Go.RowKit Go.Proofs.YtaomjndfjmfelaaW.PrintWords Go.Proofs.Ytaomjndfjmfelaa.Pre
theorem toList_inj {a b : ByteArray} (h : a.toList = b.toList) : a = b := by
 rw [ByteArray.toList_eq, ByteArray.toList_eq] at h
 exact WideShapes.bytes_inj h
theorem bytesOf_get (s : ByteArray) (i : Nat) (h : i < s.size) : (bytesOf s)[i]'(by rw [bytesOf_length]; exact h) = bt s (i : Int) := by
 have h1 := rd_bytesOf s (i : Int)
 unfold rd at h1
 rw [← h1]
 simp [bytesOf_length, h]
theorem strOf_bytesOf (s : ByteArray) : strOfNums (bytesOf s) = s := by
 apply ByteArray.ext
 apply Array.ext'
 show (bytesOf s).map (fun n => UInt8.ofNat n.toNat) = s.data.toList
 unfold bytesOf
 rw [List.map_map]
 conv => rhs; rw [← List.map_id s.data.toList]
 apply List.map_congr_left
 intro b _
 show UInt8.ofNat ((b.toNat : Int).toNat) = b
 rw [Int.toNat_natCast]
 exact UInt8.ofNat_toNat
theorem bytesOf_strOf (l : List Int) (h : ∀ c ∈ l, 0 ≤ c ∧ c < 256) : bytesOf (strOfNums l) = l := by
 unfold bytesOf
 rw [strOfNums_data, List.map_map]
 conv => rhs; rw [← List.map_id l]
 apply List.map_congr_left
 intro c hc
 have := h c hc
 show ((UInt8.ofNat c.toNat).toNat : Int) = c
 rw [UInt8.toNat_ofNat']
 omega
theorem toList_nil_iff (s : ByteArray) : s.toList = ([] : List UInt8) ↔ s.size = 0 := by
 rw [ByteArray.toList_eq]
 constructor
 ·intro h
  rw [← data_length, h]
  rfl
 ·intro h
  rw [← data_length] at h
  exact List.eq_nil_of_length_eq_zero h
end Go.Proofs.Ytaomjndfjmfelaa.Byt
end

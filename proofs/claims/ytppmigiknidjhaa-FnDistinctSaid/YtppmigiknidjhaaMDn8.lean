/- Several texts in one: what the claim's last text rests on. No conditions. -/
import Derived.Test.YtppmigiknidjhaaMDn4
import Derived.Laws.Strings
import Derived.WideShapes
section
namespace Go.Proofs.Ytppmigiknidjhaa.Byt
set_option linter.unusedVariables false
open Go.RowKit Go.Proofs.YtppmigiknidjhaaW.PrintWords Go.Proofs.Ytppmigiknidjhaa.Pre
theorem toList_inj {a b : ByteArray} (h : a.toList = b.toList) : a = b := by
  rw [ByteArray.toList_eq, ByteArray.toList_eq] at h
  exact WideShapes.bytes_inj h
theorem bytesOf_get (s : ByteArray) (i : Nat) (h : i < s.size) : (bytesOf s)[i]'(by rw [bytesOf_length]; exact h) = bt s (i : Int) := by
  have h1 := rd_bytesOf s (i : Int)
  unfold rd at h1
  rw [← h1]
  simp [bytesOf_length, h]
theorem strOf_bytesOf (s : ByteArray) : strOfNums (bytesOf s) = s := by
  apply ByteArray.ext
  apply Array.ext'
  show (bytesOf s).map (fun n => UInt8.ofNat n.toNat) = s.data.toList
  unfold bytesOf
  rw [List.map_map]
  conv => rhs; rw [← List.map_id s.data.toList]
  apply List.map_congr_left
  intro b _
  show UInt8.ofNat ((b.toNat : Int).toNat) = b
  rw [Int.toNat_natCast]
  exact UInt8.ofNat_toNat
theorem bytesOf_inj {a b : ByteArray} (h : bytesOf a = bytesOf b) : a = b := by
  rw [← strOf_bytesOf a, ← strOf_bytesOf b, h]
theorem bytesOf_take (s : ByteArray) (i : Nat) : bytesOf (s.extract 0 i) = (bytesOf s).take i := by
  unfold bytesOf
  rw [ByteArray.data_extract, Array.toList_extract, ← List.map_take]
  congr 1
end Go.Proofs.Ytppmigiknidjhaa.Byt
end

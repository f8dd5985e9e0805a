/- Several texts in one: what the claim's last text rests on. No conditions. -/
import Derived.Shelf.Strings.Builder1
import Derived.Shelf.Strings.Builder2
import Derived.Shelf.Strings.BuilderF
import Derived.Shelf.Utf8.RuneCount
import Derived.Shelf.Strings.Search1
import Derived.Shelf.Strings.Search2
import Derived.Shelf.Strings.Search3
import Derived.Shelf.Strings.Count
import Derived.Shelf.LaysM
import Derived.Shelf.Strings.Shaped
import Derived.Shelf.Strings.Split
import Derived.Shelf.Strings.SplitShaped
import Derived.Shelf.Unicode.Decode
import Derived.Shelf.Strings.RuneCount
import Derived.Shelf.Strings.Explode
import Derived.Shelf.Unicode.DecodeSlow
import Derived.Shelf.Unicode.DecodeAny
import Derived.Test.YtdlkmnohmdnogaaDoorProg
section
namespace Go.Proofs
open Go.Shelf
def Tryd.lays143_ren : Go.Shelf.Ren := ⟨fun | 143 => 23 | 219 => 30 | 217 => 38 | 225 => 39 | 224 => 40 | 267 => 41 | 266 => 48 | 314 => 49 | n => n, fun | 9 => 9 | 3 => 3 | 4 => 4 | 5 => 5 | 46 => 77 | 146 => 95 | 51 => 38 | n => n, fun | 1 => 0 | n => n⟩
theorem Tryd.lays143 : Go.Proofs.Lays.n143 Tryd.prog Tryd.lays143_ren := {
 mixed := by kernel_rfl
 f143 := Tryd.func23.trans (congrArg some (by kernel_rfl))
 f217 := Tryd.func38.trans (congrArg some (by kernel_rfl))
 f219 := Tryd.func30.trans (congrArg some (by kernel_rfl))
 f224 := Tryd.func40.trans (congrArg some (by kernel_rfl))
 f225 := Tryd.func39.trans (congrArg some (by kernel_rfl))
 f266 := Tryd.func48.trans (congrArg some (by kernel_rfl))
 f267 := Tryd.func41.trans (congrArg some (by kernel_rfl))
 f314 := Tryd.func49.trans (congrArg some (by kernel_rfl))
 t3 := Tryd.underlying3
 a3 := Tryd.isAgg3
 z3 := Tryd.sizeOf3
 v3 := Tryd.zeroValue3
 t4 := Tryd.underlying4
 a4 := Tryd.isAgg4
 z4 := Tryd.sizeOf4
 v4 := Tryd.zeroValue4
 t5 := Tryd.underlying5
 a5 := Tryd.isAgg5
 z5 := Tryd.sizeOf5
 v5 := Tryd.zeroValue5
 t9 := Tryd.underlying9
 a9 := Tryd.isAgg9
 z9 := Tryd.sizeOf9
 v9 := Tryd.zeroValue9
 t46 := Tryd.underlying77
 a46 := Tryd.isAgg77
 z46 := Tryd.sizeOf77
 v46 := Tryd.zeroValue77
 t51 := Tryd.underlying38
 a51 := Tryd.isAgg38
 z51 := Tryd.sizeOf38
 v51 := Tryd.zeroValue38
 t146 := Tryd.underlying95
 a146 := Tryd.isAgg95
 z146 := Tryd.sizeOf95
 v146 := Tryd.zeroValue95
 g1 := by kernel_rfl }
open Go.RowKit Go.Lib in
/-- strings.Index: "Index returns the index of the first instance of substr in s, or -1 if substr is not present in s.": AT A substr OF ONE BYTE c: IT RETURNS 'Lib.indexByte s c'; the world is as it was. (LAID: no walk: one application.) -/
theorem Tryd.strings_Index_one_f23 (s : ByteArray) (c : UInt8) (w : World) :
  Calls Tryd.prog 23 #[.string s, .string ⟨#[c]⟩] w fun e w' => e = .returned (.int .i64 (Lib.indexByte s.data.toList c)) ∧ w' = w := Any.strings_Index_one Tryd.lays143 s c w
def Tryd.lays138_ren : Go.Shelf.Ren := ⟨fun | 138 => 22 | 195 => 27 | 218 => 29 | 143 => 23 | 219 => 30 | 217 => 38 | 225 => 39 | 224 => 40 | 267 => 41 | 266 => 48 | 314 => 49 | n => n, fun | 9 => 9 | 3 => 3 | 4 => 4 | 5 => 5 | 0 => 0 | 46 => 77 | 146 => 95 | 51 => 38 | n => n, fun | 1 => 0 | n => n⟩
theorem Tryd.lays138 : Go.Proofs.Lays.n138 Tryd.prog Tryd.lays138_ren := {
 mixed := by kernel_rfl
 f138 := Tryd.func22.trans (congrArg some (by kernel_rfl))
 f143 := Tryd.func23.trans (congrArg some (by kernel_rfl))
 f195 := Tryd.func27.trans (congrArg some (by kernel_rfl))
 f217 := Tryd.func38.trans (congrArg some (by kernel_rfl))
 f218 := Tryd.func29.trans (congrArg some (by kernel_rfl))
 f219 := Tryd.func30.trans (congrArg some (by kernel_rfl))
 f224 := Tryd.func40.trans (congrArg some (by kernel_rfl))
 f225 := Tryd.func39.trans (congrArg some (by kernel_rfl))
 f266 := Tryd.func48.trans (congrArg some (by kernel_rfl))
 f267 := Tryd.func41.trans (congrArg some (by kernel_rfl))
 f314 := Tryd.func49.trans (congrArg some (by kernel_rfl))
 t0 := Tryd.underlying0
 a0 := Tryd.isAgg0
 z0 := Tryd.sizeOf0
 v0 := Tryd.zeroValue0
 t3 := Tryd.underlying3
 a3 := Tryd.isAgg3
 z3 := Tryd.sizeOf3
 v3 := Tryd.zeroValue3
 t4 := Tryd.underlying4
 a4 := Tryd.isAgg4
 z4 := Tryd.sizeOf4
 v4 := Tryd.zeroValue4
 t5 := Tryd.underlying5
 a5 := Tryd.isAgg5
 z5 := Tryd.sizeOf5
 v5 := Tryd.zeroValue5
 t9 := Tryd.underlying9
 a9 := Tryd.isAgg9
 z9 := Tryd.sizeOf9
 v9 := Tryd.zeroValue9
 t46 := Tryd.underlying77
 a46 := Tryd.isAgg77
 z46 := Tryd.sizeOf77
 v46 := Tryd.zeroValue77
 t51 := Tryd.underlying38
 a51 := Tryd.isAgg38
 z51 := Tryd.sizeOf38
 v51 := Tryd.zeroValue38
 t146 := Tryd.underlying95
 a146 := Tryd.isAgg95
 z146 := Tryd.sizeOf95
 v146 := Tryd.zeroValue95
 g1 := by kernel_rfl }
open Go.RowKit Go.Lib in
/-- strings.Count AT A substr OF ONE BYTE ('hp'): "Count counts the number of non-overlapping instances of substr in s.": IT RETURNS 'Lib.countByte s (that byte)'; the world is as it was. ✋ NO CONTRACT HERE YET at an empty substr (utf8.RuneCountInString) or at a longer one (a loop over strings.Index). (LAID: no walk: one application.) -/
theorem Tryd.strings_Count_one_f22 (s : ByteArray) (c : UInt8) (w : World) :
  Calls Tryd.prog 22 #[.string s, .string ⟨#[c]⟩] w fun e w' => e = .returned (.int .i64 (Lib.countByte s.data.toList c)) ∧ w' = w := Any.strings_Count_one Tryd.lays138 s c w
end Go.Proofs
end

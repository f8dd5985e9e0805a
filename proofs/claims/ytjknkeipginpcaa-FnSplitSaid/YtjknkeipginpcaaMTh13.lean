/- Several texts in one: what the claim's last text rests on. No conditions. -/
import Derived.Test.YtjknkeipginpcaaMTh12
import Derived.Lib.SliceRun
import Derived.Deep.RegionLaw
import Derived.Test.YtjknkeipginpcaaMTh5
section
namespace Go.Proofs.Ytjknkeipginpcaa.TrG
set_option linter.unusedVariables false
set_option linter.unusedSimpArgs false
open Go.RowKit Go.Proofs.Ytjknkeipginpcaa.PQ Go.Proofs.YtjknkeipginpcaaW.PrintWords Go.Proofs.YtjknkeipginpcaaW.PrintLast Go.Proofs.YtjknkeipginpcaaW.PrintMore Go.Proofs.Ytjknkeipginpcaa.Pre Go.Proofs.Ytjknkeipginpcaa.Tr Go.Proofs.Ytjknkeipginpcaa.Pr Go.Proofs.Ytjknkeipginpcaa.Po

/-- What CutKey answers. -/
def ansC (L : List Lb) (key : ByteArray) : List Lb × Bool := if (ansP L).2 = true ∧ hsk ((ansP L).1.map BuI.kv) key = true then (enc (((ansP L).1.map BuI.kv).eraseIdx (plc ((ansP L).1.map BuI.kv) key)).length 0 (((ansP L).1.map BuI.kv).eraseIdx (plc ((ansP L).1.map BuI.kv) key)), true) else ([], false)
theorem hsk_lt {l : List KV} {key : ByteArray} (h : hsk l key = true) : plc l key < l.length := by
 unfold hsk at h
 rw [Bool.and_eq_true] at h
 exact of_decide_eq_true h.1
theorem keys_ok {ps : List Pa} (h : ∀ x ∈ ps, x.f0.size ≤ 40 ∧ x.f1.size ≤ 60) : ∀ i : Nat, i < ps.length → (rd_T80 ps (i : Int)).f0.size ≤ 1048576 := by
 intro i hi
 have e : rd_T80 ps (i : Int) = ps[i] := by
  unfold rd_T80
  simp [hi]
 rw [e]
 have := (h _ (List.getElem_mem hi)).1
 omega
end Go.Proofs.Ytjknkeipginpcaa.TrG
end

section
namespace Go.Proofs.Ytjknkeipginpcaa.PQ
open Go.RowKit Go.Proofs.YtjknkeipginpcaaW.PrintWords Go.Proofs.YtjknkeipginpcaaW.PrintLast Go.Proofs.YtjknkeipginpcaaW.PrintMore
attribute [local go_sem] max2_int min2_int max_two min_two max_three min_three max_four min_four
set_option linter.unusedVariables false
set_option linter.unusedSimpArgs false

end Go.Proofs.Ytjknkeipginpcaa.PQ
end

/- Several texts in one: what the claim's last text rests on. No conditions. -/
import Derived.Test.YtcngebfcpobnnaaMRm11
import Derived.Test.YtcngebfcpobnnaaMRm26
import Derived.Test.YtcngebfcpobnnaaMRm8
import Derived.Test.YtcngebfcpobnnaaMRm13
section
namespace Go.Proofs.Ytcngebfcpobnnaa.Strs
set_option linter.unusedVariables false
open Go.RowKit Go.Proofs.Ytcngebfcpobnnaa.PQ Go.Proofs.YtcngebfcpobnnaaW.PrintWords Go.Proofs.YtcngebfcpobnnaaW.PrintLast Go.Proofs.Ytcngebfcpobnnaa.Pre
theorem mark_ev (l : List ByteArray) (m0 : Nat) (hm : m0 ≤ 4194304) (hl : l.length ≤ 1048576) : Evt (fun k => laws_markStringS.f k l (m0 : Int)) (((m0 + l.length : Nat) : Int), (List.range l.length).map (fun j => mT (m0 + j))) := by
 unfold laws_markStringS.f
 have key : ∀ (m i : Nat) (acc : List ByteArray), i + m = l.length → acc.length = l.length → (∀ j, j < i → acc[j]? = some (mT (m0 + j))) →
   Evt (fun k => laws_markStringS.l0 k acc ((m0 + i : Nat) : Int) (i : Int)) (((m0 + l.length : Nat) : Int), (List.range l.length).map (fun j => mT (m0 + j))) := by
  intro m
  induction m with
  | zero =>
   intro i acc hi ha hj
   refine Evt.step (fun k => laws_markStringS.l0.eq_2 _ _ _ k) (Evt.neg (by omega) ((Evt.const _).eq ?_))
   rw [show i = l.length by omega]
   congr 1
   apply List.ext_getElem?
   intro j
   by_cases hlt : j < l.length
   ·
    rw [hj j (by omega)]
    simp [hlt]
   ·
    rw [List.getElem?_eq_none (by omega), List.getElem?_eq_none (by simp; omega)]
  | succ m ih =>
   intro i acc hi ha hj
   refine Evt.step (fun k => laws_markStringS.l0.eq_2 _ _ _ k) (Evt.pos (by omega) (Evt.bind (mT_ev (m0 + i) (by omega)) (Evt.pos (by omega) ?_)))
   rw [w64 (n := ((m0 + i : Nat) : Int) + 1) (by omega) (by omega), w64 (n := (i : Int) + 1) (by omega) (by omega)]
   rw [show ((m0 + i : Nat) : Int) + 1 = ((m0 + (i + 1) : Nat) : Int) by omega]
   refine ih (i + 1) _ (by omega) (by simp; omega) (fun j hlt => ?_)
   rw [Int.toNat_natCast]
   by_cases hji : j = i
   ·
    subst hji
    exact List.getElem?_set_self (by omega)
   ·
    rw [List.getElem?_set_ne (by omega)]
    exact hj j (by omega)
 exact key l.length 0 l (by omega) rfl (fun j h => by omega)
theorem held_ev (n m0 : Nat) (hm : m0 ≤ 4194304) (hl : n ≤ 1048576) : Evt (fun k => laws_heldStringS.f k ((List.range n).map (fun j => mT (m0 + j))) (m0 : Int)) ((m0 + n : Nat) : Int) := by
 unfold laws_heldStringS.f
 have hlen : ((List.range n).map (fun j => mT (m0 + j))).length = n := by simp
 have key : ∀ (m i : Nat), i + m = n → Evt (fun k => laws_heldStringS.l0 k ((List.range n).map (fun j => mT (m0 + j))) ((m0 + i : Nat) : Int) (i : Int)) ((m0 + n : Nat) : Int) := by
  intro m
  induction m with
  | zero =>
   intro i hi
   refine Evt.step (fun k => laws_heldStringS.l0.eq_2 _ _ _ k) (Evt.neg (by rw [hlen]; omega) ((Evt.const _).eq ?_))
   rw [show i = n by omega]
  | succ m ih =>
   intro i hi
   refine Evt.step (fun k => laws_heldStringS.l0.eq_2 _ _ _ k) (Evt.pos (by rw [hlen]; omega) (Evt.pos (by omega) (Evt.bind (mT_ev (m0 + i) (by omega)) ?_)))
   rw [w64 (n := ((m0 + i : Nat) : Int) + 1) (by omega) (by omega), w64 (n := (i : Int) + 1) (by omega) (by omega)]
   rw [show ((m0 + i : Nat) : Int) + 1 = ((m0 + (i + 1) : Nat) : Int) by omega]
   refine Evt.pos ?_ (ih (i + 1) (by omega))
   rw [rd_get _ i (by rw [hlen]; omega)]
   simp
 exact key n 0 (by omega)
end Go.Proofs.Ytcngebfcpobnnaa.Strs
end

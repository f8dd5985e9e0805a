/- Several texts in one: what the claim's last text rests on. No conditions. -/
import Derived.Test.YtaomjndfjmfelaaMSo4
import Derived.Test.YtaomjndfjmfelaaMSo6
import Derived.Test.YtaomjndfjmfelaaMSo7
import Derived.Test.YtaomjndfjmfelaaMSo8
import Derived.Maps.OwnSet
import Derived.Maps.OwnOps
section
namespace Go.Proofs.Ytaomjndfjmfelaa.Rank
set_option linter.unusedVariables false
set_option linter.unusedSimpArgs false
open Go.RowKit Go.Maps Go.ChangeMaps Go.Proofs.Ytaomjndfjmfelaa.PQ Go.Proofs.YtaomjndfjmfelaaW.PrintWords Go.Proofs.YtaomjndfjmfelaaW.PrintLast Go.Proofs.YtaomjndfjmfelaaW.PrintMore Go.Proofs.Ytaomjndfjmfelaa.Pre
abbrev Sc := S79
/-- One stands ahead of another one. -/
def ahead (y x : Sc) : Bool := decide (x.f1 < y.f1 ∨ (x.f1 = y.f1 ∧ y.f0 < x.f0))
end Go.Proofs.Ytaomjndfjmfelaa.Rank
end

section
namespace Go.Proofs.Ytaomjndfjmfelaa.Meet
set_option linter.unusedVariables false
set_option linter.unusedSimpArgs false
open Go.RowKit Go.Proofs.Ytaomjndfjmfelaa.PQ Go.Proofs.YtaomjndfjmfelaaW.PrintWords Go.Proofs.YtaomjndfjmfelaaW.PrintLast Go.Proofs.YtaomjndfjmfelaaW.PrintMore Go.Proofs.Ytaomjndfjmfelaa.Pre Go.Proofs.Ytaomjndfjmfelaa.Rank
def isId (id : Int) (x : Sc) : Bool := x.f0 == id
end Go.Proofs.Ytaomjndfjmfelaa.Meet
end

section
namespace Go.Proofs.Ytaomjndfjmfelaa.RankG
set_option linter.unusedVariables false
set_option linter.unusedSimpArgs false
open Go.RowKit Go.Maps Go.ChangeMaps Go.Proofs.Ytaomjndfjmfelaa.PQ Go.Proofs.YtaomjndfjmfelaaW.PrintWords Go.Proofs.YtaomjndfjmfelaaW.PrintLast Go.Proofs.YtaomjndfjmfelaaW.PrintMore Go.Proofs.Ytaomjndfjmfelaa.Pre
abbrev Rk := S77
end Go.Proofs.Ytaomjndfjmfelaa.RankG
end

section
namespace Go.Proofs.Ytaomjndfjmfelaa.RankP
set_option linter.unusedVariables false
set_option linter.unusedSimpArgs false
open Go.RowKit Go.Proofs.Ytaomjndfjmfelaa.PQ Go.Proofs.YtaomjndfjmfelaaW.PrintWords Go.Proofs.YtaomjndfjmfelaaW.PrintLast Go.Proofs.Ytaomjndfjmfelaa.Pre Go.Proofs.Ytaomjndfjmfelaa.Rank Go.Proofs.Ytaomjndfjmfelaa.RankG
theorem rd_at (l : List Sc) (i : Nat) (h : i < l.length) : rd_T79 l (i : Int) = l[i] := by
 unfold rd_T79
 rw [Int.toNat_natCast, List.getD_eq_getElem?_getD, List.getElem?_eq_getElem h]
 rfl
theorem rd_atR (l : List Rk) (i : Nat) (h : i < l.length) : rd_T77 l (i : Int) = l[i] := by
 unfold rd_T77
 rw [Int.toNat_natCast, List.getD_eq_getElem?_getD, List.getElem?_eq_getElem h]
 rfl
theorem in_ev (a b c : Int) : spec_l1In.f a b c = some (decide (b ≤ a ∧ a ≤ c)) := by
 unfold spec_l1In.f
 by_cases h1 : a ≥ b
 ·
  rw [if_pos h1]
  congr 1
  by_cases h2 : a ≤ c
  ·
   rw [decide_eq_true h2, decide_eq_true ⟨h1, h2⟩]
  ·
   rw [decide_eq_false h2, decide_eq_false (fun e => h2 e.2)]
 ·
  rw [if_neg h1, decide_eq_false (fun e => h1 e.1)]
theorem less_ev (y x : Sc) : spec_l11Less.f y.f0 y.f1 x.f0 x.f1 = some (Rank.ahead y x) := by
 unfold spec_l11Less.f Rank.ahead
 by_cases h1 : y.f1 > x.f1
 ·
  rw [if_pos h1]
  simp [show x.f1 < y.f1 from h1]
 ·
  rw [if_neg h1]
  by_cases h2 : y.f1 = x.f1
  ·
   rw [if_pos h2]
   simp [h2]
  ·
   rw [if_neg h2]
   have h3 : ¬ x.f1 < y.f1 := h1
   have h4 : ¬ x.f1 = y.f1 := fun e => h2 e.symm
   simp [h3, h4]
end Go.Proofs.Ytaomjndfjmfelaa.RankP
end

section
namespace Go.Proofs.Ytaomjndfjmfelaa.RankS
set_option linter.unusedVariables false
open Go.RowKit Go.Proofs.Ytaomjndfjmfelaa.PQ Go.Proofs.YtaomjndfjmfelaaW.PrintWords Go.Proofs.YtaomjndfjmfelaaW.PrintLast Go.Proofs.Ytaomjndfjmfelaa.Pre Go.Proofs.Ytaomjndfjmfelaa.Rank Go.Proofs.Ytaomjndfjmfelaa.RankG Go.Proofs.Ytaomjndfjmfelaa.RankP
def sum1 (id : Int) (s : Int) (l : List Sc) : Int := l.foldl (fun s x => if x.f0 = id then wrap64 (s + x.f1) else s) s
def sumR (id : Int) (L : List Rk) : Int := L.foldl (fun s x => sum1 id s x.f0) 0
theorem impl_sumOf_1 (id : Int) (L : List Rk) (x11 x12 : Int) (l : List Sc) (hl : l.length ≤ 1048576) (r : Int) : ∀ (n i : Nat) (s : Int), i + n = l.length → Evt (fun k => impl_sumOf.l0 k id (sum1 id s (l.drop i)) L x11 (wrap64 (x12 + 1))) r → Evt (fun k => impl_sumOf.l1 k id s L x11 x12 l (l.length : Int) (i : Int)) r := by
 intro n
 induction n with
 | zero =>
  intro i s hi hn
  rw [List.drop_of_length_le (by omega)] at hn
  exact Evt.step (fun k => impl_sumOf.l1.eq_2 _ _ _ _ _ _ _ _ k) (Evt.neg (by omega) hn)
 | succ n ih =>
  intro i s hi hn
  have hlt : i < l.length := by omega
  refine Evt.step (fun k => impl_sumOf.l1.eq_2 _ _ _ _ _ _ _ _ k) (Evt.pos (by omega) (Evt.pos (by omega) (Evt.pos (by omega) ?_)))
  rw [rd_at l i hlt, w64 (n := (i : Int) + 1) (by omega) (by omega)]
  rw [List.drop_eq_getElem_cons hlt] at hn
  by_cases he : l[i].f0 = id
  ·
   refine Evt.pos he (ih (i + 1) _ (by omega) ?_)
   have e : sum1 id s (l[i] :: l.drop (i + 1)) = sum1 id (wrap64 (s + l[i].f1)) (l.drop (i + 1)) := by
    unfold sum1
    rw [List.foldl_cons, if_pos he]
   rw [e] at hn
   exact hn
  ·
   refine Evt.neg he (ih (i + 1) _ (by omega) ?_)
   have e : sum1 id s (l[i] :: l.drop (i + 1)) = sum1 id s (l.drop (i + 1)) := by
    unfold sum1
    rw [List.foldl_cons, if_neg he]
   rw [e] at hn
   exact hn
theorem impl_sumOf_ev (id : Int) (L : List Rk) (hL : L.length ≤ 1048576) (hx : ∀ x ∈ L, x.f0.length ≤ 1048576) : Evt (fun k => impl_sumOf.f k L id) (sumR id L) := by
 have key : ∀ (n i : Nat) (s : Int), i + n = L.length → Evt (fun k => impl_sumOf.l0 k id s L (L.length : Int) (i : Int)) ((L.drop i).foldl (fun s x => sum1 id s x.f0) s) := by
  intro n
  induction n with
  | zero =>
   intro i s hi
   rw [List.drop_of_length_le (by omega)]
   exact Evt.step (fun k => impl_sumOf.l0.eq_2 _ _ _ _ _ k) (Evt.neg (by omega) (Evt.const _))
  | succ n ih =>
   intro i s hi
   have hlt : i < L.length := by omega
   refine Evt.step (fun k => impl_sumOf.l0.eq_2 _ _ _ _ _ k) (Evt.pos (by omega) (Evt.pos (by omega) (Evt.pos (by omega) ?_)))
   rw [rd_atR L i hlt, List.drop_eq_getElem_cons hlt, List.foldl_cons]
   refine impl_sumOf_1 id L (L.length : Int) (i : Int) L[i].f0 (hx _ (List.getElem_mem _)) _ L[i].f0.length 0 s (by omega) ?_
   rw [List.drop_zero, w64 (n := (i : Int) + 1) (by omega) (by omega)]
   exact ih (i + 1) _ (by omega)
 exact key L.length 0 0 (by omega)
theorem spec_l11Sum_1 (id : Int) (L : List Rk) (x11 x12 : Int) (l : List Sc) (hl : l.length ≤ 1048576) (r : Int) : ∀ (n i : Nat) (s : Int), i + n = l.length → Evt (fun k => spec_l11Sum.l0 k id (sum1 id s (l.drop i)) L x11 (wrap64 (x12 + 1))) r → Evt (fun k => spec_l11Sum.l1 k id s L x11 x12 l (l.length : Int) (i : Int)) r := by
 intro n
 induction n with
 | zero =>
  intro i s hi hn
  rw [List.drop_of_length_le (by omega)] at hn
  exact Evt.step (fun k => spec_l11Sum.l1.eq_2 _ _ _ _ _ _ _ _ k) (Evt.neg (by omega) hn)
 | succ n ih =>
  intro i s hi hn
  have hlt : i < l.length := by omega
  refine Evt.step (fun k => spec_l11Sum.l1.eq_2 _ _ _ _ _ _ _ _ k) (Evt.pos (by omega) (Evt.pos (by omega) (Evt.pos (by omega) ?_)))
  rw [rd_at l i hlt, w64 (n := (i : Int) + 1) (by omega) (by omega)]
  rw [List.drop_eq_getElem_cons hlt] at hn
  by_cases he : l[i].f0 = id
  ·
   refine Evt.pos he (ih (i + 1) _ (by omega) ?_)
   have e : sum1 id s (l[i] :: l.drop (i + 1)) = sum1 id (wrap64 (s + l[i].f1)) (l.drop (i + 1)) := by
    unfold sum1
    rw [List.foldl_cons, if_pos he]
   rw [e] at hn
   exact hn
  ·
   refine Evt.neg he (ih (i + 1) _ (by omega) ?_)
   have e : sum1 id s (l[i] :: l.drop (i + 1)) = sum1 id s (l.drop (i + 1)) := by
    unfold sum1
    rw [List.foldl_cons, if_neg he]
   rw [e] at hn
   exact hn
theorem spec_l11Sum_ev (id : Int) (L : List Rk) (hL : L.length ≤ 1048576) (hx : ∀ x ∈ L, x.f0.length ≤ 1048576) : Evt (fun k => spec_l11Sum.f k L id) (sumR id L) := by
 have key : ∀ (n i : Nat) (s : Int), i + n = L.length → Evt (fun k => spec_l11Sum.l0 k id s L (L.length : Int) (i : Int)) ((L.drop i).foldl (fun s x => sum1 id s x.f0) s) := by
  intro n
  induction n with
  | zero =>
   intro i s hi
   rw [List.drop_of_length_le (by omega)]
   exact Evt.step (fun k => spec_l11Sum.l0.eq_2 _ _ _ _ _ k) (Evt.neg (by omega) (Evt.const _))
  | succ n ih =>
   intro i s hi
   have hlt : i < L.length := by omega
   refine Evt.step (fun k => spec_l11Sum.l0.eq_2 _ _ _ _ _ k) (Evt.pos (by omega) (Evt.pos (by omega) (Evt.pos (by omega) ?_)))
   rw [rd_atR L i hlt, List.drop_eq_getElem_cons hlt, List.foldl_cons]
   refine spec_l11Sum_1 id L (L.length : Int) (i : Int) L[i].f0 (hx _ (List.getElem_mem _)) _ L[i].f0.length 0 s (by omega) ?_
   rw [List.drop_zero, w64 (n := (i : Int) + 1) (by omega) (by omega)]
   exact ih (i + 1) _ (by omega)
 exact key L.length 0 0 (by omega)
end Go.Proofs.Ytaomjndfjmfelaa.RankS
end

section
namespace Go.Proofs.Ytaomjndfjmfelaa.Meet
set_option linter.unusedVariables false
set_option linter.unusedSimpArgs false
open Go.RowKit Go.Proofs.Ytaomjndfjmfelaa.PQ Go.Proofs.YtaomjndfjmfelaaW.PrintWords Go.Proofs.YtaomjndfjmfelaaW.PrintLast Go.Proofs.YtaomjndfjmfelaaW.PrintMore Go.Proofs.Ytaomjndfjmfelaa.Pre Go.Proofs.Ytaomjndfjmfelaa.Rank Go.Proofs.Ytaomjndfjmfelaa.RankG
theorem cell0 {W : World} {b t : Nat} {u v : Value} (h : W.heap[b]? = some (.cells #[u, v] t (0, 0))) : W.cell? ⟨b, 0, none⟩ = some u := by
 unfold World.cell?
 rw [show W.heap[(⟨b, 0, none⟩ : Addr).block]? = _ from h]
 rfl
theorem cell1 {W : World} {b t : Nat} {u v : Value} (h : W.heap[b]? = some (.cells #[u, v] t (0, 0))) : W.cell? ⟨b, 1, none⟩ = some v := by
 unfold World.cell?
 rw [show W.heap[(⟨b, 1, none⟩ : Addr).block]? = _ from h]
 rfl
theorem at_new (w : World) (o : Obj) : (w.alloc o).heap[w.heap.size]? = some o := by
 show (w.heap.push o)[w.heap.size]? = some o
 simp
theorem lt_some {W : World} {b : Nat} {o : Obj} (h : W.heap[b]? = some o) : b < W.heap.size := by
 rcases Nat.lt_or_ge b W.heap.size with h1 | h1
 ·
  exact h1
 ·
  rw [Array.getElem?_eq_none h1] at h
  cases h
end Go.Proofs.Ytaomjndfjmfelaa.Meet
end

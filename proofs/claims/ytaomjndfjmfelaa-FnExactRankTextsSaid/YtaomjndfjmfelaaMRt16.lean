/- Several texts in one: what the claim's last text rests on. No conditions. -/
import Derived.Test.YtaomjndfjmfelaaMRt4
import Derived.Test.YtaomjndfjmfelaaMRt6
import Derived.Maps.OwnSet
import Derived.Maps.OwnOps
import Derived.Test.YtaomjndfjmfelaaMRt7
import Derived.Test.YtaomjndfjmfelaaMRt8
section
namespace Go.Proofs.Ytaomjndfjmfelaa.Rank
set_option linter.unusedVariables false
set_option linter.unusedSimpArgs false
open Go.RowKit Go.Maps Go.ChangeMaps Go.Proofs.Ytaomjndfjmfelaa.PQ Go.Proofs.YtaomjndfjmfelaaW.PrintWords Go.Proofs.YtaomjndfjmfelaaW.PrintLast Go.Proofs.YtaomjndfjmfelaaW.PrintMore Go.Proofs.Ytaomjndfjmfelaa.Pre
abbrev Sc := S79
/-- One stands ahead of another one. -/
def ahead (y x : Sc) : Bool := decide (x.f1 < y.f1 ∨ (x.f1 = y.f1 ∧ y.f0 < x.f0))
end Go.Proofs.Ytaomjndfjmfelaa.Rank
end

section
namespace Go.Proofs.Ytaomjndfjmfelaa.Meet
set_option linter.unusedVariables false
set_option linter.unusedSimpArgs false
open Go.RowKit Go.Proofs.Ytaomjndfjmfelaa.PQ Go.Proofs.YtaomjndfjmfelaaW.PrintWords Go.Proofs.YtaomjndfjmfelaaW.PrintLast Go.Proofs.YtaomjndfjmfelaaW.PrintMore Go.Proofs.Ytaomjndfjmfelaa.Pre Go.Proofs.Ytaomjndfjmfelaa.Rank
def isId (id : Int) (x : Sc) : Bool := x.f0 == id
theorem rd_sc (l : List Sc) (i : Nat) (h : i < l.length) : rd_T79 l (i : Int) = l[i] := by
 unfold rd_T79
 rw [Int.toNat_natCast, List.getD_eq_getElem?_getD, List.getElem?_eq_getElem h]
 rfl
theorem lit_calls (x : Sc) (id : Int) (bq : Nat) (w : World) (hcl : w.cell? ⟨bq, 0, none⟩ = some (.int .i64 id)) : Calls Try.prog 142 #[.agg #[.int .i64 x.f0, .int .i64 x.f1], .pointer (some ⟨bq, 0, none⟩)] w fun e w' => e = .returned (.bool (isId id x)) ∧ Below w.heap.size w w' := by
 have HB := aM (below_alloc (Below.refl w.heap.size w) (.cells #[.int .i64 x.f0, .int .i64 x.f1] 79))
 have hc2 : (w.alloc (.cells #[.int .i64 x.f0, .int .i64 x.f1] 79)).cell? ⟨bq, 0, none⟩ = some (.int .i64 id) := (HB.out.cell (World.block_lt_of_cell? w _ hcl)).trans hcl
 clear hcl
 unfold isId
 go_enter Try.func142, Try.ntmps142
 go_wp2
 go_ret
 exact ⟨by first | rfl | simp, HB.out⟩
set_option maxHeartbeats 1000000 in
theorem index_calls (A : Option Addr) (c : Nat) (l : List Sc) (id : Int) (bq : Nat) (w : World) (hcl : ∀ w', Below w.heap.size w w' → w'.cell? ⟨bq, 0, none⟩ = some (.int .i64 id)) (hr : Kd.C k79 w A l.length l) (hl : l.length ≤ 1048576) :
  Calls Try.prog 158 #[.slice A l.length c, .func (.func 142) #[] #[.pointer (some ⟨bq, 0, none⟩)]] w fun e w' => ∃ r : Int, e = .returned (.int .i64 r) ∧ decide ((0 : Int) ≤ r) = l.any (isId id) ∧ Below w.heap.size w w' := by
 have HR := aM hr
 have HL := aM hl
 have HCL := aM hcl
 clear hr hl hcl
 go_enter Try.func158, Try.ntmps158
 go_wp2
 go_loopg [8] l.length (fun kq v8 w' => ∃ i : Nat, v8 = .int .i64 (i : Int) ∧ i ≤ l.length ∧ kq = l.length - i ∧ Aside0 ((l.take i).any (isId id) = false) ∧ Aside0 (Below w.heap.size w w'))
 case atStart => exact ⟨0, rfl, by omega, by omega, ⟨by simp⟩, ⟨Below.refl _ _⟩⟩
 case round =>
  obtain ⟨i, rfl, hi, hk, HE, HB⟩ := hrel
  by_cases hlt : i < l.length
  ·
   have HI := aM hlt
   have p1 : (0 : Int) ≤ (i : Int) := by omega
   have q1 : (i : Int) < (l.length : Int) := by omega
   obtain ⟨ad, rfl, hx0, hx1⟩ := at_T79 HR.out (i : Int) p1 q1
   replace hx0 := (HB.out.cell (World.block_lt_of_cell? w _ hx0)).trans hx0
   replace hx1 := (HB.out.cell (World.block_lt_of_cell? w _ hx1)).trans hx1
   rw [Int.toNat_natCast, rd_sc l i hlt] at hx0 hx1
   obtain ⟨x, hxe⟩ : ∃ x, x = l[i] := ⟨_, rfl⟩
   rw [← hxe] at hx0 hx1
   have HT : Aside0 ((l.take (i + 1)).any (isId id) = isId id x) := ⟨by rw [List.take_succ_eq_append_getElem hlt, List.any_append, HE.out, ← hxe]; simp⟩
   have HM : Aside0 (isId id x = true → l.any (isId id) = true) := ⟨fun h => List.any_eq_true.2 ⟨x, by rw [hxe]; exact List.getElem_mem hlt, h⟩⟩
   clear hxe
   obtain ⟨b, hb⟩ : ∃ b, b = isId id x := ⟨_, rfl⟩
   have HBB := aM hb
   clear hb
   cases b with
   | true =>
    go_wp2_with (first | (go_at_call 142; go_loud ((with_reducible refine (lit_calls x id bq _ (HCL.out _ HB.out)).mono ?_); rintro e w2 ⟨rfl, hb⟩; rw [← HBB.out]; have HB2 := aM (below_step HB.out hb); clear hb)))
    go_ret
    exact ⟨_, rfl, by rw [HM.out HBB.out.symm]; simp, HB2.out⟩
   | false =>
    go_wp2_with (first | (go_at_call 142; go_loud ((with_reducible refine (lit_calls x id bq _ (HCL.out _ HB.out)).mono ?_); rintro e w2 ⟨rfl, hb⟩; rw [← HBB.out]; have HB2 := aM (below_step HB.out hb); clear hb)))
    go_roundg (l.length - (i + 1))
    case measure => have := HI.out; omega
    case rel => exact ⟨i + 1, by have := HL.out; have := HI.out; first | go_num | (rw [w64 (by omega) (by omega)]; go_num), by have := HI.out; omega, by omega, ⟨HT.out.trans HBB.out.symm⟩, HB2⟩
  ·
   obtain rfl : i = l.length := by omega
   go_wp2
   go_ret
   exact ⟨-1, rfl, by rw [show l.any (isId id) = false from by have h_ := HE.out; rwa [List.take_length] at h_]; rfl, HB.out⟩
theorem contains_calls (A : Option Addr) (c : Nat) (l : List Sc) (id : Int) (bq : Nat) (w : World) (hcl : ∀ w', Below w.heap.size w w' → w'.cell? ⟨bq, 0, none⟩ = some (.int .i64 id)) (hr : Kd.C k79 w A l.length l) (hl : l.length ≤ 1048576) :
  Calls Try.prog 141 #[.slice A l.length c, .func (.func 142) #[] #[.pointer (some ⟨bq, 0, none⟩)]] w fun e w' => e = .returned (.bool (l.any (isId id))) ∧ Below w.heap.size w w' := by
 have HR := aM hr
 have HL := aM hl
 have HCL := aM hcl
 clear hr hl hcl
 go_enter Try.func141, Try.ntmps141
 go_wp2_with (first | (go_at_call 158; go_loud ((with_reducible refine (index_calls A c l id bq _ HCL.out HR.out HL.out).mono ?_); rintro e w2 ⟨r, rfl, hr2, hb⟩; have HB2 := aM hb; clear hb)))
 go_ret
 exact ⟨rfl, HB2.out⟩
end Go.Proofs.Ytaomjndfjmfelaa.Meet
end

section
namespace Go.Proofs.Ytaomjndfjmfelaa.RankG
set_option linter.unusedVariables false
set_option linter.unusedSimpArgs false
open Go.RowKit Go.Maps Go.ChangeMaps Go.Proofs.Ytaomjndfjmfelaa.PQ Go.Proofs.YtaomjndfjmfelaaW.PrintWords Go.Proofs.YtaomjndfjmfelaaW.PrintLast Go.Proofs.YtaomjndfjmfelaaW.PrintMore Go.Proofs.Ytaomjndfjmfelaa.Pre
abbrev Rk := S77
end Go.Proofs.Ytaomjndfjmfelaa.RankG
end

section
namespace Go.Proofs.Ytaomjndfjmfelaa.RankP
set_option linter.unusedVariables false
set_option linter.unusedSimpArgs false
open Go.RowKit Go.Proofs.Ytaomjndfjmfelaa.PQ Go.Proofs.YtaomjndfjmfelaaW.PrintWords Go.Proofs.YtaomjndfjmfelaaW.PrintLast Go.Proofs.Ytaomjndfjmfelaa.Pre Go.Proofs.Ytaomjndfjmfelaa.Rank Go.Proofs.Ytaomjndfjmfelaa.RankG
theorem rd_at (l : List Sc) (i : Nat) (h : i < l.length) : rd_T79 l (i : Int) = l[i] := by
 unfold rd_T79
 rw [Int.toNat_natCast, List.getD_eq_getElem?_getD, List.getElem?_eq_getElem h]
 rfl
theorem rd_atR (l : List Rk) (i : Nat) (h : i < l.length) : rd_T77 l (i : Int) = l[i] := by
 unfold rd_T77
 rw [Int.toNat_natCast, List.getD_eq_getElem?_getD, List.getElem?_eq_getElem h]
 rfl
theorem in_ev (a b c : Int) : spec_l1In.f a b c = some (decide (b ≤ a ∧ a ≤ c)) := by
 unfold spec_l1In.f
 by_cases h1 : a ≥ b
 ·
  rw [if_pos h1]
  congr 1
  by_cases h2 : a ≤ c
  ·
   rw [decide_eq_true h2, decide_eq_true ⟨h1, h2⟩]
  ·
   rw [decide_eq_false h2, decide_eq_false (fun e => h2 e.2)]
 ·
  rw [if_neg h1, decide_eq_false (fun e => h1 e.1)]
theorem less_ev (y x : Sc) : spec_l11Less.f y.f0 y.f1 x.f0 x.f1 = some (Rank.ahead y x) := by
 unfold spec_l11Less.f Rank.ahead
 by_cases h1 : y.f1 > x.f1
 ·
  rw [if_pos h1]
  simp [show x.f1 < y.f1 from h1]
 ·
  rw [if_neg h1]
  by_cases h2 : y.f1 = x.f1
  ·
   rw [if_pos h2]
   simp [h2]
  ·
   rw [if_neg h2]
   have h3 : ¬ x.f1 < y.f1 := h1
   have h4 : ¬ x.f1 = y.f1 := fun e => h2 e.symm
   simp [h3, h4]
end Go.Proofs.Ytaomjndfjmfelaa.RankP
end

section
namespace Go.Proofs.Ytaomjndfjmfelaa.RankS
set_option linter.unusedVariables false
open Go.RowKit Go.Proofs.Ytaomjndfjmfelaa.PQ Go.Proofs.YtaomjndfjmfelaaW.PrintWords Go.Proofs.YtaomjndfjmfelaaW.PrintLast Go.Proofs.Ytaomjndfjmfelaa.Pre Go.Proofs.Ytaomjndfjmfelaa.Rank Go.Proofs.Ytaomjndfjmfelaa.RankG Go.Proofs.Ytaomjndfjmfelaa.RankP
def sum1 (id : Int) (s : Int) (l : List Sc) : Int := l.foldl (fun s x => if x.f0 = id then wrap64 (s + x.f1) else s) s
def sumR (id : Int) (L : List Rk) : Int := L.foldl (fun s x => sum1 id s x.f0) 0
theorem impl_sumOf_1 (id : Int) (L : List Rk) (x11 x12 : Int) (l : List Sc) (hl : l.length ≤ 1048576) (r : Int) : ∀ (n i : Nat) (s : Int), i + n = l.length → Evt (fun k => impl_sumOf.l0 k id (sum1 id s (l.drop i)) L x11 (wrap64 (x12 + 1))) r → Evt (fun k => impl_sumOf.l1 k id s L x11 x12 l (l.length : Int) (i : Int)) r := by
 intro n
 induction n with
 | zero =>
  intro i s hi hn
  rw [List.drop_of_length_le (by omega)] at hn
  exact Evt.step (fun k => impl_sumOf.l1.eq_2 _ _ _ _ _ _ _ _ k) (Evt.neg (by omega) hn)
 | succ n ih =>
  intro i s hi hn
  have hlt : i < l.length := by omega
  refine Evt.step (fun k => impl_sumOf.l1.eq_2 _ _ _ _ _ _ _ _ k) (Evt.pos (by omega) (Evt.pos (by omega) (Evt.pos (by omega) ?_)))
  rw [rd_at l i hlt, w64 (n := (i : Int) + 1) (by omega) (by omega)]
  rw [List.drop_eq_getElem_cons hlt] at hn
  by_cases he : l[i].f0 = id
  ·
   refine Evt.pos he (ih (i + 1) _ (by omega) ?_)
   have e : sum1 id s (l[i] :: l.drop (i + 1)) = sum1 id (wrap64 (s + l[i].f1)) (l.drop (i + 1)) := by
    unfold sum1
    rw [List.foldl_cons, if_pos he]
   rw [e] at hn
   exact hn
  ·
   refine Evt.neg he (ih (i + 1) _ (by omega) ?_)
   have e : sum1 id s (l[i] :: l.drop (i + 1)) = sum1 id s (l.drop (i + 1)) := by
    unfold sum1
    rw [List.foldl_cons, if_neg he]
   rw [e] at hn
   exact hn
theorem impl_sumOf_ev (id : Int) (L : List Rk) (hL : L.length ≤ 1048576) (hx : ∀ x ∈ L, x.f0.length ≤ 1048576) : Evt (fun k => impl_sumOf.f k L id) (sumR id L) := by
 have key : ∀ (n i : Nat) (s : Int), i + n = L.length → Evt (fun k => impl_sumOf.l0 k id s L (L.length : Int) (i : Int)) ((L.drop i).foldl (fun s x => sum1 id s x.f0) s) := by
  intro n
  induction n with
  | zero =>
   intro i s hi
   rw [List.drop_of_length_le (by omega)]
   exact Evt.step (fun k => impl_sumOf.l0.eq_2 _ _ _ _ _ k) (Evt.neg (by omega) (Evt.const _))
  | succ n ih =>
   intro i s hi
   have hlt : i < L.length := by omega
   refine Evt.step (fun k => impl_sumOf.l0.eq_2 _ _ _ _ _ k) (Evt.pos (by omega) (Evt.pos (by omega) (Evt.pos (by omega) ?_)))
   rw [rd_atR L i hlt, List.drop_eq_getElem_cons hlt, List.foldl_cons]
   refine impl_sumOf_1 id L (L.length : Int) (i : Int) L[i].f0 (hx _ (List.getElem_mem _)) _ L[i].f0.length 0 s (by omega) ?_
   rw [List.drop_zero, w64 (n := (i : Int) + 1) (by omega) (by omega)]
   exact ih (i + 1) _ (by omega)
 exact key L.length 0 0 (by omega)
theorem spec_l11Sum_1 (id : Int) (L : List Rk) (x11 x12 : Int) (l : List Sc) (hl : l.length ≤ 1048576) (r : Int) : ∀ (n i : Nat) (s : Int), i + n = l.length → Evt (fun k => spec_l11Sum.l0 k id (sum1 id s (l.drop i)) L x11 (wrap64 (x12 + 1))) r → Evt (fun k => spec_l11Sum.l1 k id s L x11 x12 l (l.length : Int) (i : Int)) r := by
 intro n
 induction n with
 | zero =>
  intro i s hi hn
  rw [List.drop_of_length_le (by omega)] at hn
  exact Evt.step (fun k => spec_l11Sum.l1.eq_2 _ _ _ _ _ _ _ _ k) (Evt.neg (by omega) hn)
 | succ n ih =>
  intro i s hi hn
  have hlt : i < l.length := by omega
  refine Evt.step (fun k => spec_l11Sum.l1.eq_2 _ _ _ _ _ _ _ _ k) (Evt.pos (by omega) (Evt.pos (by omega) (Evt.pos (by omega) ?_)))
  rw [rd_at l i hlt, w64 (n := (i : Int) + 1) (by omega) (by omega)]
  rw [List.drop_eq_getElem_cons hlt] at hn
  by_cases he : l[i].f0 = id
  ·
   refine Evt.pos he (ih (i + 1) _ (by omega) ?_)
   have e : sum1 id s (l[i] :: l.drop (i + 1)) = sum1 id (wrap64 (s + l[i].f1)) (l.drop (i + 1)) := by
    unfold sum1
    rw [List.foldl_cons, if_pos he]
   rw [e] at hn
   exact hn
  ·
   refine Evt.neg he (ih (i + 1) _ (by omega) ?_)
   have e : sum1 id s (l[i] :: l.drop (i + 1)) = sum1 id s (l.drop (i + 1)) := by
    unfold sum1
    rw [List.foldl_cons, if_neg he]
   rw [e] at hn
   exact hn
theorem spec_l11Sum_ev (id : Int) (L : List Rk) (hL : L.length ≤ 1048576) (hx : ∀ x ∈ L, x.f0.length ≤ 1048576) : Evt (fun k => spec_l11Sum.f k L id) (sumR id L) := by
 have key : ∀ (n i : Nat) (s : Int), i + n = L.length → Evt (fun k => spec_l11Sum.l0 k id s L (L.length : Int) (i : Int)) ((L.drop i).foldl (fun s x => sum1 id s x.f0) s) := by
  intro n
  induction n with
  | zero =>
   intro i s hi
   rw [List.drop_of_length_le (by omega)]
   exact Evt.step (fun k => spec_l11Sum.l0.eq_2 _ _ _ _ _ k) (Evt.neg (by omega) (Evt.const _))
  | succ n ih =>
   intro i s hi
   have hlt : i < L.length := by omega
   refine Evt.step (fun k => spec_l11Sum.l0.eq_2 _ _ _ _ _ k) (Evt.pos (by omega) (Evt.pos (by omega) (Evt.pos (by omega) ?_)))
   rw [rd_atR L i hlt, List.drop_eq_getElem_cons hlt, List.foldl_cons]
   refine spec_l11Sum_1 id L (L.length : Int) (i : Int) L[i].f0 (hx _ (List.getElem_mem _)) _ L[i].f0.length 0 s (by omega) ?_
   rw [List.drop_zero, w64 (n := (i : Int) + 1) (by omega) (by omega)]
   exact ih (i + 1) _ (by omega)
 exact key L.length 0 0 (by omega)
end Go.Proofs.Ytaomjndfjmfelaa.RankS
end

section
namespace Go.Proofs.Ytaomjndfjmfelaa.Meet
set_option linter.unusedVariables false
set_option linter.unusedSimpArgs false
open Go.RowKit Go.Proofs.Ytaomjndfjmfelaa.PQ Go.Proofs.YtaomjndfjmfelaaW.PrintWords Go.Proofs.YtaomjndfjmfelaaW.PrintLast Go.Proofs.YtaomjndfjmfelaaW.PrintMore Go.Proofs.Ytaomjndfjmfelaa.Pre Go.Proofs.Ytaomjndfjmfelaa.Rank Go.Proofs.Ytaomjndfjmfelaa.RankG
theorem beside4 {W w3 w4 : World} {g t e base : Nat} {α : Type} {d : Kd α} {ok : Nat → Prop} {v : Value} {xs : List α} {cells : Array Value} (h : W.heap[g]? = some (.cells cells t (0, 0))) (hb : Below W.heap.size W w3) (ho : d.R e W base ok v xs) (hg : w3.grownBy w4 v.ownBlock) (ht : e ≠ t) : w4.heap[g]? = some (.cells cells t (0, 0)) := by
 have hlt : g < W.heap.size := by
  rcases Nat.lt_or_ge g W.heap.size with h1 | h1
  ·
   exact h1
  ·
   rw [Array.getElem?_eq_none h1] at h
   cases h
 exact (hg.block g (Nat.lt_of_lt_of_le hlt hb.size) (Kd.R_ne ho h ht)).trans ((hb.block g hlt).trans h)
theorem cell0 {W : World} {b t : Nat} {u v : Value} (h : W.heap[b]? = some (.cells #[u, v] t (0, 0))) : W.cell? ⟨b, 0, none⟩ = some u := by
 unfold World.cell?
 rw [show W.heap[(⟨b, 0, none⟩ : Addr).block]? = _ from h]
 rfl
theorem cell1 {W : World} {b t : Nat} {u v : Value} (h : W.heap[b]? = some (.cells #[u, v] t (0, 0))) : W.cell? ⟨b, 1, none⟩ = some v := by
 unfold World.cell?
 rw [show W.heap[(⟨b, 1, none⟩ : Addr).block]? = _ from h]
 rfl
theorem froz1 {W : World} {b t : Nat} {u v : Value} (h : W.heap[b]? = some (.cells #[u, v] t (0, 0))) : W.frozen? ⟨b, 1, none⟩ = false := by
 unfold World.frozen?
 rw [show W.heap[(⟨b, 1, none⟩ : Addr).block]? = _ from h]
 rfl
theorem cellq {W : World} {b t : Nat} {v : Value} (h : W.heap[b]? = some (.cells #[v] t (0, 0))) : W.cell? ⟨b, 0, none⟩ = some v := by
 unfold World.cell?
 rw [show W.heap[(⟨b, 0, none⟩ : Addr).block]? = _ from h]
 rfl
theorem at_new (w : World) (o : Obj) : (w.alloc o).heap[w.heap.size]? = some o := by
 show (w.heap.push o)[w.heap.size]? = some o
 simp
theorem lt_some {W : World} {b : Nat} {o : Obj} (h : W.heap[b]? = some o) : b < W.heap.size := by
 rcases Nat.lt_or_ge b W.heap.size with h1 | h1
 ·
  exact h1
 ·
  rw [Array.getElem?_eq_none h1] at h
  cases h
/-- Those that were met, one more. -/
def met (L : List Rk) (id : Int) (list : List Sc) : List Sc := if list.any (isId id) = true then list else list ++ [⟨id, RankS.sumR id L⟩]
set_option maxRecDepth 100000 in
set_option maxHeartbeats 4000000 in
theorem meet_calls (w0 : World) (AL : Option Addr) (cL : Nat) (L : List Rk) (b : Nat) (v : Value) (list : List Sc) (id : Int) (w : World) (hw0 : Below w0.heap.size w0 w) (hrl : Kd.C k77 w0 AL L.length L) (hcl : L.length ≤ cL) (hL : L.length ≤ 1048576) (hLx : ∀ x ∈ L, x.f0.length ≤ 1048576) (hb0 : w0.heap.size ≤ b) (hnb : w.heap[b]? = some (.cells #[.slice AL L.length cL, v] 123 (0, 0))) (ho : Kd.R k79 79 w w0.heap.size (fun _ => True) v list) (hln : list.length ≤ 100000) :
  Calls Try.prog 100 #[.pointer (some ⟨b, 0, none⟩), .int .i64 id] w fun e w' => e = .returned (.tuple #[]) ∧ ∃ v', w'.heap[b]? = some (.cells #[.slice AL L.length cL, v'] 123 (0, 0)) ∧ Kd.R k79 79 w' w0.heap.size (fun _ => True) v' (met L id list) ∧ Below w0.heap.size w0 w' := by
 obtain ⟨Av, cv, rfl, hcv, hCv⟩ := Kd.R_reads ho
 obtain ⟨Wa, hWa⟩ : ∃ Wa, Wa = w.alloc (.cells #[.int .i64 id] 3) := ⟨_, rfl⟩
 have HWa : Aside0 (Below w.heap.size w Wa) := ⟨by subst hWa; exact below_alloc (Below.refl _ _) _⟩
 have HQa : Aside0 (Wa.heap[w.heap.size]? = some (.cells #[.int .i64 id] 3 (0, 0))) := ⟨by subst hWa; exact at_new w _⟩
 have HNa : Aside0 (Wa.heap[b]? = some (.cells #[.slice AL L.length cL, .slice Av list.length cv] 123 (0, 0))) := ⟨(HWa.out.block b (lt_some hnb)).trans hnb⟩
 have HRL := aM hrl
 have HCL0 := aM hcl
 have HLN := aM hln
 have HOa := aM (Kd.R_below ho HWa.out)
 have HW0a := aM (below_step hw0 HWa.out)
 have HCa := aM (Kd.C_below hCv HWa.out)
 have HB0 := aM hb0
 obtain ⟨ks, hks⟩ := (RankS.impl_sumOf_ev id L hL hLx).ex
 have HE := aM hks
 obtain ⟨s, hs⟩ : ∃ s, s = RankS.sumR id L := ⟨_, rfl⟩
 rw [← hs] at HE
 have HSS := aM hs
 have h1 : (w.alloc (.cells #[.int .i64 id] 3)).cell? ⟨b, 1, none⟩ = some (.slice Av list.length cv) := by rw [← hWa]; exact cell1 HNa.out
 obtain ⟨bb, hbb⟩ : ∃ bb, bb = list.any (isId id) := ⟨_, rfl⟩
 have HBB := aM hbb
 clear hw0 hrl hcl hL hLx hb0 hnb ho hln hcv hCv hks hs hbb
 go_enter Try.func100, Try.ntmps100
 cases bb with
 | true =>
  go_wp2_with (first | (go_at_call 141; go_loud (rw [← hWa]; (with_reducible refine (contains_calls Av cv list id w.heap.size Wa (fun w' hb => (hb.cell (lt_some HQa.out)).trans (cellq HQa.out)) HCa.out (by have := HLN.out; omega)).mono ?_); rintro e W ⟨rfl, hb⟩; rw [← HBB.out]; have HNB := aM ((hb.block b (lt_some HNa.out)).trans HNa.out); have HNQ := aM ((hb.block w.heap.size (lt_some HQa.out)).trans HQa.out); have HO := aM (Kd.R_below HOa.out hb); have HW0 := aM (below_step HW0a.out hb); clear hb h1)))
  go_end0
  refine ⟨rfl, _, HNB.out, ?_, HW0.out⟩
  unfold met
  rw [if_pos HBB.out.symm]
  exact HO.out
 | false =>
  go_wp2_with (first | (go_at_call 141; go_loud (rw [← hWa]; (with_reducible refine (contains_calls Av cv list id w.heap.size Wa (fun w' hb => (hb.cell (lt_some HQa.out)).trans (cellq HQa.out)) HCa.out (by have := HLN.out; omega)).mono ?_); rintro e W ⟨rfl, hb⟩; rw [← HBB.out]; have HNB := aM ((hb.block b (lt_some HNa.out)).trans HNa.out); have HNQ := aM ((hb.block w.heap.size (lt_some HQa.out)).trans HQa.out); have HO := aM (Kd.R_below HOa.out hb); have HW0 := aM (below_step HW0a.out hb); clear hb h1)))
  have HH : Aside0 (∀ w', Below W.heap.size W w' → w'.cell? ⟨b, 0, none⟩ = some (.slice AL L.length cL) ∧ w'.cell? ⟨b, 1, none⟩ = some (.slice Av list.length cv) ∧ w'.cell? ⟨w.heap.size, 0, none⟩ = some (.int .i64 id)) := ⟨fun w' hb => ⟨(hb.cell (lt_some HNB.out)).trans (cell0 HNB.out), (hb.cell (lt_some HNB.out)).trans (cell1 HNB.out), (hb.cell (lt_some HNQ.out)).trans (cellq HNQ.out)⟩⟩
  refine start_ (n := 18) (S := fun w' => w'.cell? ⟨b, 0, none⟩ = some (.slice AL L.length cL) ∧ w'.cell? ⟨b, 1, none⟩ = some (.slice Av list.length cv) ∧ w'.cell? ⟨w.heap.size, 0, none⟩ = some (.int .i64 id)) (ds := [17]) (bq 18 0) (by kernel_rfl) rfl (by kernel_rfl) ⟨(HH.out W.drew (Below.refl W.heap.size W).drew).1, (HH.out W.drew (Below.refl W.heap.size W).drew).2.1, (HH.out W.drew (Below.refl W.heap.size W).drew).2.2⟩ (fun hHeld => ?_)
  refine pure_ (i := 0) (N := some 11) (v := ?_) (a' := ?_) (bq 18 1) rfl rfl (by kernel_rfl) (fun _ _ _ h => h) (Or.inl ⟨by rfl, ?_⟩) ?_ ?_; rotate_left; (intro w'; go_simp; (with_reducible rfl)); rotate_left; (simp only [Act.put, zSA, zSB, zSC, i64_w, i32_w]; rfl)
  refine pure_ (i := 1) (N := some 12) (v := ?_) (a' := ?_) (bq 18 3) rfl rfl (by kernel_rfl) (fun _ _ _ h => h) (Or.inl ⟨by rfl, ?_⟩) ?_ ?_; rotate_left; (intro w'; go_simp; (with_reducible rfl)); rotate_left; (simp only [Act.put, zSA, zSB, zSC, i64_w, i32_w]; rfl)
  refine pure_ (i := 2) (N := some 13) (v := ?_) (a' := ?_) (bq 18 7) rfl rfl (by kernel_rfl) (fun _ _ _ h => h) (Or.inl ⟨by rfl, ?_⟩) ?_ ?_; rotate_left; (intro w'; go_simp; (with_reducible rfl)); rotate_left; (simp only [Act.put, zSA, zSB, zSC, i64_w, i32_w]; rfl)
  refine pure_ (i := 3) (N := some 14) (v := ?_) (a' := ?_) (bq 18 15) rfl rfl (by kernel_rfl) (fun _ _ _ h => h) (Or.inl ⟨by rfl, ?_⟩) ?_ ?_; rotate_left; (intro w'; go_simp; (with_reducible rfl)); rotate_left; (simp only [Act.put, zSA, zSB, zSC, i64_w, i32_w]; rfl)
  refine pure_ (i := 6) (N := some 17) (v := ?_) (a' := ?_) (bq 18 79) rfl rfl (by kernel_rfl) (fun _ _ _ h => h) (Or.inl ⟨by rfl, ?_⟩) ?_ ?_; rotate_left; (intro w'; go_simp; (with_reducible rfl)); rotate_left; (simp only [Act.put, zSA, zSB, zSC, i64_w, i32_w]; rfl)
  refine pure_ (i := 7) (N := some 18) (v := ?_) (a' := ?_) (bq 18 207) rfl rfl (by kernel_rfl) (fun _ _ _ h => h) (Or.inl ⟨by rfl, ?_⟩) ?_ ?_; rotate_left; (intro w'; go_simp; (with_reducible rfl)); rotate_left; (simp only [Act.put, zSA, zSB, zSC, i64_w, i32_w]; rfl)
  refine pure_ (i := 8) (N := some 19) (v := ?_) (a' := ?_) (bq 18 463) rfl rfl (by kernel_rfl) (fun _ _ _ h => h) (Or.inl ⟨by rfl, ?_⟩) ?_ ?_; rotate_left; (intro w'; go_simp; (with_reducible rfl)); rotate_left; (simp only [Act.put, zSA, zSB, zSC, i64_w, i32_w]; rfl)
  refine take_ (i := 4) (N := some 15) (v := ?_) (a' := ?_) (bq 18 479) rfl rfl (by kernel_rfl) (fun _ _ _ h => h) (Or.inl ⟨by rfl, ?_⟩) hHeld ?_ ?_; rotate_left; (rintro w' ⟨s0, s1, s2⟩; go_simp; (with_reducible rfl)); rotate_left; (simp only [Act.put, zSA, zSB, zSC, i64_w, i32_w]; rfl)
  refine take_ (i := 5) (N := some 16) (v := ?_) (a' := ?_) (bq 18 511) rfl rfl (by kernel_rfl) (fun _ _ _ h => h) (Or.inl ⟨by rfl, ?_⟩) hHeld ?_ ?_; rotate_left; (rintro w' ⟨s0, s1, s2⟩; go_simp; (with_reducible rfl)); rotate_left; (simp only [Act.put, zSA, zSB, zSC, i64_w, i32_w]; rfl)
  refine take_ (i := 9) (N := some 20) (v := ?_) (a' := ?_) (bq 18 1023) rfl rfl (by kernel_rfl) (fun _ _ _ h => h) (Or.inl ⟨by rfl, ?_⟩) hHeld ?_ ?_; rotate_left; (rintro w' ⟨s0, s1, s2⟩; go_simp; (with_reducible rfl)); rotate_left; (simp only [Act.put, zSA, zSB, zSC, i64_w, i32_w]; rfl)
  refine take_ (i := 10) (N := some 21) (v := ?_) (a' := ?_) (bq 18 2047) rfl rfl (by kernel_rfl) (fun _ _ _ h => h) (Or.inl ⟨by rfl, ?_⟩) hHeld ?_ ?_; rotate_left; (rintro w' ⟨s0, s1, s2⟩; go_simp; (with_reducible rfl)); rotate_left; (simp only [Act.put, zSA, zSB, zSC, i64_w, i32_w]; rfl)
  refine one_ (i := 11) (N := some 22) (bq 18 4095) rfl rfl (by kernel_rfl) (by decide) (fun K hK => ?_)
  refine goes_ Try.func113 (by kernel_rfl) rfl #[.slice AL L.length cL, .int .i64 id] (by rfl) rfl rfl (by simp only [List.map_toArray, List.map_cons, List.map_nil]; rfl) ?_
  with_reducible refine (impl_sumOf.calls ks AL cL L id s _ (Kd.C_below HRL.out HW0.out.drew) HCL0.out HE.out).mono ?_
  rintro e w3 ⟨rfl, hb⟩
  refine ⟨_, rfl, ?_⟩
  have HB3 := aM (below_then (Below.refl W.heap.size W).drew (Nat.le_refl _) hb)
  clear hb
  refine hK.out _ _ ⟨(HH.out w3 HB3.out).1, (HH.out w3 HB3.out).2.1, (HH.out w3 HB3.out).2.2⟩ (fun hHeld => ?_)
  clear hK K
  refine norm_ (a' := ?_) ?_ ?_
  rotate_left
  ·
   show Act.put _ (some 22) _ = _
   simp only [Act.put, zSA, zSB, zSC, i64_w, i32_w]
   rfl
  refine pure_ (i := 12) (N := some 23) (v := ?_) (a' := ?_) (bq 18 8191) rfl rfl (by kernel_rfl) (fun _ _ _ h => h) (Or.inl ⟨by rfl, ?_⟩) ?_ ?_; rotate_left; (intro w'; go_simp; (with_reducible rfl)); rotate_left; (simp only [Act.put, zSA, zSB, zSC, i64_w, i32_w]; rfl)
  refine one_ (i := 13) (N := some 24) (bq 18 16383) rfl rfl (by kernel_rfl) (by decide) (fun K hK => ?_)
  refine value_ (w1 := ?_) (v := ?_) (by rfl) rfl ?_ ?_
  rotate_left 2
  ·
   go_simp
   constructor
   ·
    rfl
   ·
    rfl
  refine hK.out _ _ ⟨(HH.out _ (below_alloc HB3.out _)).1, (HH.out _ (below_alloc HB3.out _)).2.1, (HH.out _ (below_alloc HB3.out _)).2.2⟩ (fun hHeld => ?_)
  clear hK K
  refine norm_ (a' := ?_) ?_ ?_
  rotate_left
  ·
   show Act.put _ (some 24) _ = _
   simp only [Act.put, zSA, zSB, zSC, i64_w, i32_w]
   rfl
  refine one_ (i := 14) (N := some 25) (bq 18 32767) rfl rfl (by kernel_rfl) (by decide) (fun K hK => ?_)
  refine Kd.R_append_step k79 (w0 := w0) w0.heap.size (by rfl) (.tmp 15) (.tmp 24) 61 79 _ 16 rfl Try.underlying61 info79 rfl (by decide) (by decide) (.slice Av list.length cv) list (⟨id, s⟩ : Sc) _ (fun _ => True) (fun _ => False) rfl rfl (k79_mkM _ _ _ _) (fun _ h => h.elim) (fun _ _ => trivial) (Kd.R_below HO.out HB3.out) (below_step HW0.out HB3.out) (below_size (below_step HW0.out HB3.out)) (by have := HLN.out; omega) ?_
  intro v1 w4 ho1 hb1 hg1 hat1
  obtain ⟨A4, c4, e4⟩ := Kd.R_slice ho1
  subst e4
  have HO1 := aM ho1
  have HB1 := aM hb1
  have HN4 := aM (beside4 HNB.out HB3.out HO.out hg1 (by decide))
  have hf4 := froz1 HN4.out
  have HQ4 := aM (beside4 HNQ.out HB3.out HO.out hg1 (by decide))
  clear hat1 hg1 ho1 hb1
  refine hK.out _ _ ⟨cell0 HN4.out, cell1 HN4.out, cellq HQ4.out⟩ (fun hHeld => ?_)
  clear hK K
  refine norm_ (a' := ?_) ?_ ?_
  rotate_left
  ·
   show Act.put _ (some 25) _ = _
   simp only [Act.put, zSA, zSB, zSC, i64_w, i32_w]
   rfl
  refine pure_ (i := 15) (N := some 26) (v := ?_) (a' := ?_) (bq 18 65535) rfl rfl (by kernel_rfl) (fun _ _ _ h => h) (Or.inl ⟨by rfl, ?_⟩) ?_ ?_; rotate_left; (intro w'; go_simp; (with_reducible rfl)); rotate_left; (simp only [Act.put, zSA, zSB, zSC, i64_w, i32_w]; rfl)
  refine pure_ (i := 16) (N := some 27) (v := ?_) (a' := ?_) (bq 18 131071) rfl rfl (by kernel_rfl) (fun _ _ _ h => h) (Or.inl ⟨by rfl, ?_⟩) ?_ ?_; rotate_left; (intro w'; go_simp; (with_reducible rfl)); rotate_left; (simp only [Act.put, zSA, zSB, zSC, i64_w, i32_w]; rfl)
  refine last_ (i := 17) (N := none) #[true, true, true, true, true, true, true, true, true, true, true, true, true, true, true, true, true, true] rfl rfl (by kernel_rfl) (by decide) (fun K hK => ?_)
  refine skip_ (w1 := ?_) (by rfl) rfl ?_ ?_
  rotate_left
  ·
   go_simp
   rfl
  refine hK.out _ _ ?_
  clear hK K
  refine done_ (by kernel_rfl) ?_
  have hN5 := heap_setCell_same w4 b 1 _ _ (.slice A4 (list.length + 1) c4) HN4.out
  go_wp2
  go_end0
  refine ⟨rfl, _, hN5, ?_, below_set HB1.out HB0.out⟩
  unfold met
  rw [if_neg (by rw [← HBB.out]; simp), ← HSS.out]
  have e5 : (list ++ [(⟨id, s⟩ : Sc)]).length = list.length + 1 := by simp
  rw [e5] at HO1
  exact Kd.R_set HO1.out HN4.out (by decide) 1 _
end Go.Proofs.Ytaomjndfjmfelaa.Meet
end

section
namespace Go.Proofs.Ytaomjndfjmfelaa.SoB
set_option linter.unusedVariables false
set_option linter.unusedSimpArgs false
open Go.RowKit Go.Proofs.Ytaomjndfjmfelaa.PQ Go.Proofs.YtaomjndfjmfelaaW.PrintWords Go.Proofs.YtaomjndfjmfelaaW.PrintLast Go.Proofs.Ytaomjndfjmfelaa.Pre
abbrev Sc1 := S79
/-- The marks from a number on. -/
def mkC (n m0 : Nat) : List Sc1 := (List.range n).map fun (j : Nat) => ⟨((m0 + 2 * j : Nat) : Int), ((m0 + 2 * j + 1 : Nat) : Int)⟩
theorem mkC_len (n m0 : Nat) : (mkC n m0).length = n := by simp [mkC]
theorem mark_evC (l : List Sc1) (m0 : Nat) (hm : m0 ≤ 1073741824) (hl : l.length ≤ 1048576) : Evt (fun k => laws_markScoredS.f k l (m0 : Int)) (((m0 + 2 * l.length : Nat) : Int), mkC l.length m0) := by
 unfold laws_markScoredS.f
 have key : ∀ (m i : Nat) (acc : List Sc1), i + m = l.length → acc.length = l.length → (∀ j, j < i → acc[j]? = (mkC l.length m0)[j]?) →
   Evt (fun k => laws_markScoredS.l0 k acc ((m0 + 2 * i : Nat) : Int) (i : Int)) (((m0 + 2 * l.length : Nat) : Int), mkC l.length m0) := by
  intro m
  induction m with
  | zero =>
   intro i acc hi ha hj
   refine Evt.step (fun k => laws_markScoredS.l0.eq_2 _ _ _ k) (Evt.neg (by omega) ((Evt.const _).eq ?_))
   rw [show i = l.length by omega]
   congr 1
   apply List.ext_getElem?
   intro j
   by_cases hlt : j < l.length
   ·
    exact hj j (by omega)
   ·
    rw [List.getElem?_eq_none (by omega), List.getElem?_eq_none (by rw [mkC_len]; omega)]
  | succ m ih =>
   intro i acc hi ha hj
   have hia : i < acc.length := by omega
   have e : ∀ y : Sc1, rd_T79 (acc.set i y) (i : Int) = y := by
    intro y
    rw [RankP.rd_at _ i (by simpa using hia)]
    simp
   refine Evt.step (fun k => laws_markScoredS.l0.eq_2 _ _ _ k) (Evt.pos (by omega) (Evt.pos (by omega) (Evt.bsome ?_)))
   rw [w64 (n := ((m0 + 2 * i : Nat) : Int) + 1) (by omega) (by omega), show ((m0 + 2 * i : Nat) : Int) + 1 = ((m0 + 2 * i + 1 : Nat) : Int) by omega]
   rw [w64 (n := ((m0 + 2 * i + 1 : Nat) : Int) + 1) (by omega) (by omega), show ((m0 + 2 * i + 1 : Nat) : Int) + 1 = ((m0 + 2 * (i + 1) : Nat) : Int) by omega]
   rw [w64 (n := (i : Int) + 1) (by omega) (by omega), show (i : Int) + 1 = ((i + 1 : Nat) : Int) by omega]
   simp only [Int.toNat_natCast, e, List.set_set]
   refine ih (i + 1) _ (by omega) (by simp; omega) (fun j hlt => ?_)
   by_cases hji : j = i
   ·
    subst hji
    rw [List.getElem?_set_self hia]
    unfold mkC
    rw [List.getElem?_map, List.getElem?_range (by omega)]
    rfl
   ·
    rw [List.getElem?_set_ne (by omega)]
    exact hj j (by omega)
 exact key l.length 0 l (by omega) rfl (fun j h => absurd h (Nat.not_lt_zero _))
theorem held_evC (n m0 : Nat) (hm : m0 ≤ 1073741824) (hl : n ≤ 1048576) : Evt (fun k => laws_heldScoredS.f k (mkC n m0) (m0 : Int)) ((m0 + 2 * n : Nat) : Int) := by
 unfold laws_heldScoredS.f
 have hlen := mkC_len n m0
 have key : ∀ (m i : Nat), i + m = n → Evt (fun k => laws_heldScoredS.l0 k (mkC n m0) ((m0 + 2 * i : Nat) : Int) (i : Int)) ((m0 + 2 * n : Nat) : Int) := by
  intro m
  induction m with
  | zero =>
   intro i hi
   refine Evt.step (fun k => laws_heldScoredS.l0.eq_2 _ _ _ k) (Evt.neg (by omega) ((Evt.const _).eq ?_))
   rw [show i = n by omega]
  | succ m ih =>
   intro i hi
   have er : rd_T79 (mkC n m0) (i : Int) = ⟨((m0 + 2 * i : Nat) : Int), ((m0 + 2 * i + 1 : Nat) : Int)⟩ := by
    rw [RankP.rd_at _ i (by omega)]
    unfold mkC
    simp
   refine Evt.step (fun k => laws_heldScoredS.l0.eq_2 _ _ _ k) (Evt.pos (by omega) (Evt.pos (by omega) (Evt.pos (by rw [er]) ?_)))
   rw [w64 (n := ((m0 + 2 * i : Nat) : Int) + 1) (by omega) (by omega), show ((m0 + 2 * i : Nat) : Int) + 1 = ((m0 + 2 * i + 1 : Nat) : Int) by omega]
   refine Evt.pos (by rw [er]) ?_
   rw [w64 (n := ((m0 + 2 * i + 1 : Nat) : Int) + 1) (by omega) (by omega), show ((m0 + 2 * i + 1 : Nat) : Int) + 1 = ((m0 + 2 * (i + 1) : Nat) : Int) by omega]
   rw [w64 (n := (i : Int) + 1) (by omega) (by omega), show (i : Int) + 1 = ((i + 1 : Nat) : Int) by omega]
   exact ih (i + 1) (by omega)
 exact key n 0 (by omega)
end Go.Proofs.Ytaomjndfjmfelaa.SoB
end

section
namespace Go.Proofs.Ytaomjndfjmfelaa.MkQ
set_option linter.unusedVariables false
set_option linter.unusedSimpArgs false
open Go.RowKit Go.Proofs.Ytaomjndfjmfelaa.PQ Go.Proofs.YtaomjndfjmfelaaW.PrintWords Go.Proofs.YtaomjndfjmfelaaW.PrintLast Go.Proofs.YtaomjndfjmfelaaW.PrintMore Go.Proofs.Ytaomjndfjmfelaa.Pre Go.Proofs.Ytaomjndfjmfelaa.Shp

end Go.Proofs.Ytaomjndfjmfelaa.MkQ
end

section
namespace Go.Proofs.Ytaomjndfjmfelaa.RankT
set_option linter.unusedVariables false
set_option linter.unusedSimpArgs false
open Go.RowKit Go.Proofs.Ytaomjndfjmfelaa.PQ Go.Proofs.YtaomjndfjmfelaaW.PrintWords Go.Proofs.YtaomjndfjmfelaaW.PrintLast Go.Proofs.Ytaomjndfjmfelaa.Pre Go.Proofs.Ytaomjndfjmfelaa.Rank Go.Proofs.Ytaomjndfjmfelaa.RankG Go.Proofs.Ytaomjndfjmfelaa.RankP
theorem eqC_ev (a b : List Sc) (ha : a.length ≤ 1048576) : a = b → Evt (fun k => laws_eqScoredS.f k a b) true := by
 rintro rfl
 unfold laws_eqScoredS.f
 refine Evt.pos rfl ?_
 have key : ∀ (m i : Nat), i + m = a.length → Evt (fun k => laws_eqScoredS.l0 k a a (i : Int)) true := by
  intro m
  induction m with
  | zero => intro i hi; exact Evt.step (fun k => laws_eqScoredS.l0.eq_2 _ _ _ k) (Evt.neg (by omega) (Evt.const _))
  | succ m ih =>
   intro i hi
   refine Evt.step (fun k => laws_eqScoredS.l0.eq_2 _ _ _ k) (Evt.pos (by omega) (Evt.pos (by omega) (Evt.pos (by omega) ?_)))
   have e : ∀ x y : Int, laws_eqScored.f x y x y = some true := fun x y => by unfold laws_eqScored.f; simp
   rw [e]
   refine Evt.bsome (Evt.pos rfl ?_)
   rw [w64 (n := (i : Int) + 1) (by omega) (by omega)]
   exact ih (i + 1) (by omega)
 exact key a.length 0 (by omega)
end Go.Proofs.Ytaomjndfjmfelaa.RankT
end

/- Several texts in one: what the claim's last text rests on. No conditions. -/
import Derived.Test.YtcngebfcpobnnaaMRh18
import Derived.Test.YtcngebfcpobnnaaMRh25
import Derived.Test.YtcngebfcpobnnaaMRh23
import Derived.Test.YtcngebfcpobnnaaMRh24
import Derived.Test.YtcngebfcpobnnaaMRh7
section
namespace Go.Proofs.Ytcngebfcpobnnaa.Rx
set_option linter.unusedVariables false
set_option linter.unusedSimpArgs false
open Go.RowKit Go.Proofs.Ytcngebfcpobnnaa.PQ Go.Proofs.YtcngebfcpobnnaaW.PrintWords Go.Proofs.YtcngebfcpobnnaaW.PrintLast Go.Proofs.Ytcngebfcpobnnaa.Pre Go.Proofs.Ytcngebfcpobnnaa.CmpL Go.Proofs.Ytcngebfcpobnnaa.Com Go.Proofs.Ytcngebfcpobnnaa.Sml
def fit (a : Int) (s : ByteArray) (x : Eg) : Bool := (x.f2 == a) && pre s x.f0
def nx (r : List Eg) (a : Int) (s : ByteArray) : Int := match r.findIdx? (fit a s) with
 | some j => (j : Int)
 | none => -1
theorem nx_hit {r : List Eg} {a : Int} {s : ByteArray} {i : Nat} (h : i < r.length) (h1 : (r.take i).any (fit a s) = false) (h2 : fit a s r[i] = true) : nx r a s = (i : Int) := by
 unfold nx
 rw [List.findIdx?_eq_some_iff_getElem.2 ⟨h, h2, fun j hj => ?_⟩]
 have := List.any_eq_false.1 h1 r[j] (by rw [List.mem_take_iff_getElem]; exact ⟨j, by omega, rfl⟩)
 exact this
theorem nx_miss {r : List Eg} {a : Int} {s : ByteArray} (h1 : r.any (fit a s) = false) : nx r a s = -1 := by
 unfold nx
 rw [List.findIdx?_eq_none_iff.2 (fun x hx => by have := List.any_eq_false.1 h1 x hx; simpa using this)]
theorem nx_cases (r : List Eg) (a : Int) (s : ByteArray) : (nx r a s = -1 ∧ ∀ x ∈ r, fit a s x = false) ∨ ∃ j, ∃ h : j < r.length, nx r a s = (j : Int) ∧ fit a s r[j] = true ∧ ∀ i, ∀ hi : i < j, fit a s (r[i]'(by omega)) = false := by
 unfold nx
 cases h : r.findIdx? (fit a s) with
 | none => exact .inl ⟨rfl, fun x hx => List.findIdx?_eq_none_iff.1 h x hx⟩
 | some j =>
  obtain ⟨h1, h2, h3⟩ := List.findIdx?_eq_some_iff_getElem.1 h
  exact .inr ⟨j, h1, rfl, h2, fun i hi => by simpa using h3 i hi⟩
def rest (s : ByteArray) (n : Nat) : ByteArray := s.extract n s.size
/-- The way down. -/
inductive Wk (r : List Eg) : Int → ByteArray → Int → Int × ByteArray × Int → Prop
 | stop {a : Int} {s : ByteArray} {n : Int} (h : nx r a s = -1) : Wk r a s n (a, s, n)
 | go {a : Int} {s : ByteArray} {n : Int} {R : Int × ByteArray × Int} (j : Nat) (h : j < r.length) (e : nx r a s = (j : Int)) (h1 : 1 ≤ r[j].f0.size) (h2 : r[j].f0.size ≤ s.size) (w : Wk r (j : Int) (rest s r[j].f0.size) (n + 1) R) : Wk r a s n R
/-- A tree in which only one edge can fit. -/
structure OneWay (r : List Eg) : Prop where
 size : ∀ (j : Nat) (h : j < r.length), 1 ≤ j → 1 ≤ (r[j]).f0.size
 zero : ∃ h : 0 < r.length, r[0].f2 = -1
 one : ∀ (a : Int) (s : ByteArray) (i j : Nat) (hi : i < r.length) (hj : j < r.length), 0 ≤ a → fit a s r[i] = true → fit a s r[j] = true → i = j
theorem rest_size (s : ByteArray) (n : Nat) (h : n ≤ s.size) : (rest s n).size = s.size - n := by
 unfold rest
 rw [ByteArray.size_extract]
 omega
theorem fit_iff {a : Int} {s : ByteArray} {x : Eg} : fit a s x = true ↔ x.f2 = a ∧ x.f0.size ≤ s.size ∧ s.extract 0 x.f0.size = x.f0 := by
 unfold fit pre
 rw [Bool.and_eq_true, beq_iff_eq, decide_eq_true_iff]
theorem OneWay.pos {r : List Eg} (g : OneWay r) {a : Int} {s : ByteArray} {j : Nat} (ha : 0 ≤ a) (h : j < r.length) (hf : fit a s r[j] = true) : 1 ≤ j := by
 cases j with
 | zero =>
  obtain ⟨_, e⟩ := g.zero
  have := (fit_iff.1 hf).1
  omega
 | succ j => omega
theorem wk_ex {r : List Eg} (g : OneWay r) : ∀ (m : Nat) (a : Int) (s : ByteArray) (n : Int), s.size ≤ m → 0 ≤ a → ∃ R, Wk r a s n R := by
 intro m
 induction m with
 | zero =>
  intro a s n hs ha
  rcases nx_cases r a s with ⟨h, _⟩ | ⟨j, hj, h, hf, _⟩
  ·
   exact ⟨_, .stop h⟩
  ·
   have h1 := g.size j hj (g.pos ha hj hf)
   have h2 := (fit_iff.1 hf).2.1
   omega
 | succ m ih =>
  intro a s n hs ha
  rcases nx_cases r a s with ⟨h, _⟩ | ⟨j, hj, h, hf, _⟩
  ·
   exact ⟨_, .stop h⟩
  ·
   have h1 := g.size j hj (g.pos ha hj hf)
   have h2 := (fit_iff.1 hf).2.1
   obtain ⟨R, hR⟩ := ih (j : Int) (rest s r[j].f0.size) (n + 1) (by rw [rest_size _ _ h2]; omega) (by omega)
   exact ⟨R, .go j hj h h1 h2 hR⟩
theorem wk_uniq {r : List Eg} {a : Int} {s : ByteArray} {n : Int} {R R' : Int × ByteArray × Int} (h : Wk r a s n R) (h' : Wk r a s n R') : R = R' := by
 induction h with
 | stop h =>
  cases h' with
  | stop _ => rfl
  | go j hj e => rw [h] at e; omega
 | go j hj e h1 h2 w ih =>
  cases h' with
  | stop h => rw [h] at e; omega
  | go j' hj' e' h1' h2' w' =>
   rw [e] at e'
   obtain rfl : j = j' := by omega
   exact ih w'
theorem wk_at {r : List Eg} {a : Int} {s : ByteArray} {n : Int} {R : Int × ByteArray × Int} (h : Wk r a s n R) (ha : 0 ≤ a ∧ a < r.length) : 0 ≤ R.1 ∧ R.1 < r.length := by
 induction h with
 | stop h => exact ha
 | go j hj e h1 h2 w ih => exact ih (by omega)
theorem good_tree {L : List ByteArray} (h : Names L) : OneWay (tree L) := by
 obtain ⟨h1, h2, h3, h4, h5⟩ := tree_facts h
 have hz : ∀ (j : Nat) (hj : j < (tree L).length), 1 ≤ j → 1 ≤ ((tree L)[j]).f0.size := fun j hj hj1 => by
  obtain ⟨n, _, x, y, q1, q2, q3, q4⟩ := (h4 j hj hj1).text
  rw [q4, ByteArray.size_extract]
  omega
 have h0 : ∃ h : 0 < (tree L).length, ((tree L)[0]).f2 = -1 := by
  have hl := (tree_len h).1
  refine ⟨by omega, ?_⟩
  rw [List.getElem?_eq_getElem (by omega)] at h3
  rw [Option.some.inj h3]
  rfl
 refine ⟨hz, h0, fun a s i j hi hj ha fi fj => ?_⟩
 have hp := List.pairwise_iff_getElem.1 h5
 have key : ∀ (i j : Nat) (hi : i < (tree L).length) (hj : j < (tree L).length), fit a s (tree L)[i] = true → fit a s (tree L)[j] = true → ¬ i < j := by
  intro i j hi hj fi fj hij
  obtain ⟨a1, a2, a3⟩ := fit_iff.1 fi
  obtain ⟨b1, b2, b3⟩ := fit_iff.1 fj
  have pos : ∀ (k : Nat) (hk : k < (tree L).length), ((tree L)[k]).f2 = a → 1 ≤ ((tree L)[k]).f0.size := fun k hk e => by
   cases k with
   | zero =>
    obtain ⟨_, e0⟩ := h0
    omega
   | succ k => exact hz (k + 1) hk (by omega)
  have i1 := pos i hi a1
  have j1 := pos j hj b1
  have bi : bt ((tree L)[i]).f0 ((0 : Nat) : Int) = bt s ((0 : Nat) : Int) := bt_take (k := ((tree L)[i]).f0.size) (by rw [a3, take_all _ (Nat.le_refl _)]) (by omega) (Nat.le_refl _) a2
  have bj : bt ((tree L)[j]).f0 ((0 : Nat) : Int) = bt s ((0 : Nat) : Int) := bt_take (k := ((tree L)[j]).f0.size) (by rw [b3, take_all _ (Nat.le_refl _)]) (by omega) (Nat.le_refl _) b2
  rcases hp i j hi hj hij (by omega) with h | h
  ·
   exact h (bi.trans bj.symm)
  ·
   omega
 rcases Nat.lt_trichotomy i j with h | h | h
 ·
  exact absurd h (key i j hi hj fi fj)
 ·
  exact h
 ·
  exact absurd h (key j i hj hi fj fi)
theorem nx_iff {r : List Eg} (g : OneWay r) {a : Int} (s : ByteArray) (ha : 0 ≤ a) (i : Nat) (hi : i < r.length) : fit a s r[i] = true ↔ nx r a s = (i : Int) := by
 rcases nx_cases r a s with ⟨h, h2⟩ | ⟨j, hj, h, hf, _⟩
 ·
  rw [h, h2 _ (List.getElem_mem hi)]
  constructor
  ·
   intro h; cases h
  ·
   intro h; omega
 ·
  rw [h]
  constructor
  ·
   intro hfi
   rw [g.one a s i j hi hj ha hfi hf]
  ·
   intro e
   obtain rfl : i = j := by omega
   exact hf
theorem walk_look {r : List Eg} (g : OneWay r) (hl : r.length ≤ 81) (a : Int) (s : ByteArray) (n : Int) (ha : 0 ≤ a) (hs : s.size ≤ 1048576) (R : Int × ByteArray × Int)
  (hR : Evt (fun k => if nx r a s < 0 then (some (a, s, n)) else (if 0 ≤ nx r a s then (if nx r a s < (r.length : Int) then (if 0 ≤ (((rd_T64 r (nx r a s)).f0).size : Int) then (if (((rd_T64 r (nx r a s)).f0).size : Int) ≤ (s.size : Int) then (spec_l13Walk.l0 k (s.extract ((rd_T64 r (nx r a s)).f0).size s.size) (nx r a s) (wrap64 (n + 1)) r) else (none)) else (none)) else (none)) else (none))) R) :
  ∀ (m i : Nat), i + m = r.length → Evt (fun k => spec_l13Walk.l1 k s a n (if nx r a s < (i : Int) then nx r a s else -1) r (r.length : Int) (i : Int) r) R := by
 intro m
 induction m with
 | zero =>
  intro i hi
  have hx : nx r a s < (i : Int) := by
   rcases nx_cases r a s with ⟨h, _⟩ | ⟨j, hj, h, _⟩ <;> omega
  rw [if_pos hx]
  exact Evt.step (fun k => spec_l13Walk.l1.eq_2 _ _ _ _ _ _ _ _ k) (Evt.neg (by omega) hR)
 | succ m ih =>
  intro i hi
  have hlt : i < r.length := by omega
  have ih := ih (i + 1) (by omega)
  have hn := nx_iff g s ha i hlt
  have hw : wrap64 ((i : Int) + 1) = ((i + 1 : Nat) : Int) := by rw [w64 (by omega) (by omega)]; omega
  have same : ¬ nx r a s = (i : Int) → (if nx r a s < ((i + 1 : Nat) : Int) then nx r a s else -1) = (if nx r a s < (i : Int) then nx r a s else -1) := fun h => by
   by_cases h1 : nx r a s < (i : Int)
   ·
    rw [if_pos h1, if_pos (by omega)]
   ·
    rw [if_neg h1, if_neg (by omega)]
  refine Evt.step (fun k => spec_l13Walk.l1.eq_2 _ _ _ _ _ _ _ _ k) (Evt.pos (by omega) (Evt.pos (by omega) (Evt.pos (by omega) ?_)))
  rw [rd_eg r i hlt, hw]
  by_cases hf : fit a s r[i] = true
  ·
   obtain ⟨a1, a2, a3⟩ := fit_iff.1 hf
   have e := hn.1 hf
   have hp := g.pos ha hlt hf
   rw [if_pos (by omega), e] at ih
   exact Evt.pos (by omega) (Evt.pos a1 (Evt.pos (by omega) (Evt.pos (by omega) (Evt.pos (by rw [a3]) ih))))
  ·
   have hne : ¬ nx r a s = (i : Int) := fun e => hf (hn.2 e)
   rw [same hne] at ih
   by_cases h0 : 0 < i
   ·
    refine Evt.pos (by omega) ?_
    by_cases h1 : r[i].f2 = a
    ·
     refine Evt.pos h1 ?_
     by_cases h2 : r[i].f0.size ≤ s.size
     ·
      exact Evt.pos (by omega) (Evt.pos (by omega) (Evt.neg (fun h3 => hf (fit_iff.2 ⟨h1, h2, Byt.toList_inj h3⟩)) ih))
     ·
      exact Evt.neg (by omega) ih
    ·
     exact Evt.neg h1 ih
   ·
    exact Evt.neg (by omega) ih
theorem walk_ev {r : List Eg} (g : OneWay r) (hl : r.length ≤ 81) {a : Int} {s : ByteArray} {n : Int} {R : Int × ByteArray × Int} (h : Wk r a s n R) : 0 ≤ a → s.size ≤ 1048576 → 0 ≤ n → n + s.size ≤ 2097152 → Evt (fun k => spec_l13Walk.l0 k s a n r) R := by
 induction h with
 | @stop a s n h =>
  intro ha hs h0 hn
  refine Evt.step (fun k => spec_l13Walk.l0.eq_2 _ _ _ _ k) ?_
  by_cases he : s.toList = ([] : List UInt8)
  ·
   exact Evt.pos he (Evt.const _)
  ·
   refine Evt.neg he ?_
   have := walk_look g hl a s n ha hs (a, s, n) (Evt.pos (by omega) (Evt.const _)) r.length 0 (by omega)
   rw [if_pos (by omega), h] at this
   exact this
 | @go a s n R j hj e h1 h2 w ih =>
  intro ha hs h0 hn
  have hrs := rest_size s _ h2
  have ih := ih (by omega) (by omega) (by omega) (by omega)
  refine Evt.step (fun k => spec_l13Walk.l0.eq_2 _ _ _ _ k) (Evt.neg (fun h => by rw [Byt.toList_nil_iff] at h; omega) ?_)
  have := walk_look g hl a s n ha hs R (by
   rw [e, rd_eg r j hj, w64 (n := n + 1) (by omega) (by omega)]
   exact Evt.neg (by omega) (Evt.pos (by omega) (Evt.pos (by omega) (Evt.pos (by omega) (Evt.pos (by omega) ih))))) r.length 0 (by omega)
  rw [if_neg (by omega)] at this
  exact this
open Classical in
/-- What HasName answers. -/
noncomputable def ansHas (r : List Eg) (s : ByteArray) : Bool × Int × Bool :=
 if h : ((∃ L, Names L ∧ L.length ≤ 40 ∧ tree L = r) ∧ isN s = true) ∧ ∃ R, Wk r 0 s 1 R then ((h.2.choose.2.1.toList == ([] : List UInt8)) && (rd_T64 r h.2.choose.1).f1, h.2.choose.2.2, true) else (false, 0, false)
theorem ansHas_no {r : List Eg} {s : ByteArray} (h : ¬ ((∃ L, Names L ∧ L.length ≤ 40 ∧ tree L = r) ∧ isN s = true)) : ansHas r s = (false, 0, false) := by
 unfold ansHas
 rw [dif_neg (fun h2 => h h2.1)]
theorem ansHas_yes {r : List Eg} {s : ByteArray} {R : Int × ByteArray × Int} (h : (∃ L, Names L ∧ L.length ≤ 40 ∧ tree L = r) ∧ isN s = true) (w : Wk r 0 s 1 R) : ansHas r s = ((R.2.1.toList == ([] : List UInt8)) && (rd_T64 r R.1).f1, R.2.2, true) := by
 unfold ansHas
 have h2 : ((∃ L, Names L ∧ L.length ≤ 40 ∧ tree L = r) ∧ isN s = true) ∧ ∃ R, Wk r 0 s 1 R := ⟨h, R, w⟩
 rw [dif_pos h2, wk_uniq h2.2.choose_spec w]
theorem goodRadix_ev (r : List Eg) (hm : r.length ≤ 1048576) (hz : ∀ e ∈ r, e.f0.size ≤ 1048576) : (∃ L, Names L ∧ L.length ≤ 40 ∧ tree L = r ∧ Evt (fun k => impl_namesOf.f k r) (L, true) ∧ Evt (fun k => spec_l13Good.f k r) (L, true)) ∨
  (∃ x, Evt (fun k => impl_namesOf.f k r) (x, false) ∧ Evt (fun k => spec_l13Good.f k r) ([], false) ∧ ¬ ∃ L, Names L ∧ L.length ≤ 40 ∧ tree L = r) := by
 rcases both r hm hz with h | ⟨x, hx, h1, h2⟩
 ·
  exact .inl h
 ·
  refine .inr ⟨x, h1, h2, ?_⟩
  rintro ⟨L, q1, q2, q3⟩
  have := impl_names q1 q2
  rw [q3] at this
  have e := Evt.uniq this h1
  cases e
theorem specHas_ev (r : List Eg) (s : ByteArray) (hm : r.length ≤ 1048576) (hz : ∀ e ∈ r, e.f0.size ≤ 1048576) (hs : s.size ≤ 1048576) : Evt (fun k => spec_HasName.f k r s) (ansHas r s) := by
 unfold spec_HasName.f spec_GoodRadix.f
 rcases goodRadix_ev r hm hz with ⟨L, hL, h40, ht, _, h2⟩ | ⟨x, _, h2, hno⟩
 ·
  refine Evt.bind (Evt.bind h2 (Evt.const _)) (Evt.pos rfl (Evt.bind (spec_name s hs) ?_))
  by_cases hN : isN s = true
  ·
   refine Evt.pos hN ?_
   have g : OneWay r := ht ▸ good_tree hL
   have hsh := tree_short hL h40
   rw [ht] at hsh
   obtain ⟨R, w⟩ := wk_ex g s.size 0 s 1 (Nat.le_refl _) (by omega)
   have hat := wk_at w (by omega)
   rw [ansHas_yes ⟨⟨L, hL, h40, ht⟩, hN⟩ w]
   unfold spec_l13Walk.f
   refine Evt.bind (walk_ev g hsh.2 w (by omega) hs (by omega) (by omega)) ?_
   by_cases he : R.2.1.toList = ([] : List UInt8)
   ·
    exact Evt.pos he (Evt.pos hat.1 (Evt.pos hat.2 ((Evt.const _).eq (by rw [he]; simp))))
   ·
    exact Evt.neg he ((Evt.const _).eq (by rw [beq_eq_false_iff_ne.2 he]; rfl))
  ·
   rw [ansHas_no (fun h => hN h.2)]
   exact Evt.neg hN (Evt.const _)
 ·
  rw [ansHas_no (fun h => hno h.1)]
  exact Evt.bind (Evt.bind h2 (Evt.const _)) (Evt.neg (by simp) (Evt.const _))
end Go.Proofs.Ytcngebfcpobnnaa.Rx
end

section
namespace Go.Proofs.Ytcngebfcpobnnaa.PQ
open Go.RowKit Go.Proofs.YtcngebfcpobnnaaW.PrintWords Go.Proofs.YtcngebfcpobnnaaW.PrintLast Go.Proofs.YtcngebfcpobnnaaW.PrintMore
attribute [local go_sem] max2_int min2_int max_two min_two max_three min_three max_four min_four
set_option linter.unusedVariables false
set_option linter.unusedSimpArgs false
def impl_GoodRadix.f (k : Nat) (l0_0 : List (S64)) : Option (Bool) := (impl_namesOf.f k l0_0).bind fun bt307 => (some bt307.2)
set_option maxHeartbeats 8000000 in
set_option maxRecDepth 100000 in
theorem impl_GoodRadix.calls (k : Nat) (A0_0 : Option Addr) (c0_0 : Nat) (l0_0 : List (S64)) (r : Bool) (w : World) (hr0_0 : Kd.C k64 w A0_0 l0_0.length l0_0) (hc0_0 : l0_0.length ≤ c0_0) (h : impl_GoodRadix.f k l0_0 = some r) :
  Calls Try.prog 23 #[.agg #[.slice A0_0 l0_0.length c0_0]] w fun e w' => e = .returned (.bool r) ∧ Below w.heap.size w w' := by
 have hu26 := Try.underlying26
 have HR0_0 := aM hr0_0
 have HC0_0 := aM hc0_0
 clear hr0_0 hc0_0
 have HB := aM (Below.refl w.heap.size w)
 have H : ((impl_namesOf.f k l0_0).bind fun bt307 => (some bt307.2)) = some r := h
 clear h
 replace H := Option.bind_eq_some_iff.mp H
 obtain ⟨⟨t307, t310⟩, A20, H⟩ := H
 replace H : (some t310) = some r := H
 have A2 := aM A20
 clear A20
 obtain rfl := Option.some.inj H
 go_enter Try.func23, Try.ntmps23
 go_wp2_with (first | ((with_reducible refine gate_dst (N := 1) rfl ?_); refine box_event ?hg (N := 1) ?hd (cs := #[.slice A0_0 l0_0.length c0_0]) (t := 26) ?hr ?_; (case hd => rfl); (case hg => rfl); (case hr => first | (go_simp; done) | (go_simp; rfl)); intro gb306 hg w3 hbox hb; have n0_ := aM (below_step (by repeat (first | (with_reducible first | exact HB.out | apply below_alloc | apply pw_below_drewN | apply below_drew1) | exact HB.out)) hb); have n1_ := aM (hbox); have n2_ := aM ((by rw [hg]; exact (below_size (by repeat (first | (with_reducible first | exact HB.out | apply below_alloc | apply pw_below_drewN | apply below_drew1) | exact HB.out))) : w.heap.size ≤ gb306)); have n3_ := aM ((by rw [hg]; exact (below_size (by repeat (first | (with_reducible first | exact HB.out | apply below_alloc | apply pw_below_drewN | apply below_drew1) | exact HB.out))) : w.heap.size ≤ gb306)); clear HB; have HB := n0_; have BK306 := n1_; have GW306 := n2_; have GE306 := n3_; clear n0_ n1_ n2_ n3_; clear hb hbox hg; have hcz4_0 : w3.cell? ⟨gb306, 0, none⟩ = some (.slice A0_0 l0_0.length c0_0) := (blk_cell BK306.out 0).trans rfl; have hfz4_0 := blk_frozen BK306.out 0) | ((with_reducible refine gate_callee (f := 54) rfl ?_); refine goesL_ (some 7) rfl rfl Try.func54 (by kernel_rfl) rfl #[.agg #[.slice A0_0 l0_0.length c0_0]] rfl (by (try simp only [List.map_toArray, List.map_cons, List.map_nil]); first | done | rfl | (simp only [List.length_drop, List.length_take]; rfl)) ?_; (with_reducible refine (impl_namesOf.calls k _ _ l0_0 t307 t310 _ ?side1 ?side2 A2.out).mono ?_); (case side1 => repeat (first | exact (Kd.C_below HR0_0.out HB.out) | (with_reducible refine Kd.C_alloc ?_ _) | (with_reducible refine Kd.C_drewN ?_ _) | (with_reducible refine Kd.C_drew ?_))); (case side2 => exact HC0_0.out); rintro e w5 ⟨v308, rfl, ho0, hb⟩; refine ⟨_, rfl, ?_⟩; have n0_ := aM (Kd.R_lower ho0 (below_size (by repeat (first | (with_reducible first | exact HB.out | apply below_alloc | apply pw_below_drewN | apply below_drew1 | refine below_set ?_ GE306.out) | exact HB.out)))); have n1_ := aM (blk_below (g := gb306) (o := .cells #[.slice A0_0 l0_0.length c0_0] 26 (0, 0)) (by (with_reducible repeat (first | refine blk_drewN ?_ _ | refine blk_drew ?_ | refine blk_alloc ?_ _)); exact BK306.out) hb); have n2_ := aM (below_step (by repeat (first | (with_reducible first | exact HB.out | apply below_alloc | apply pw_below_drewN | apply below_drew1 | refine below_set ?_ GE306.out) | exact HB.out)) hb); clear BK306; clear HB; have HO309 := n0_; have BK306 := n1_; have HB := n2_; clear n0_ n1_ n2_; (try clear hb); (try clear hb2); (try clear hk); (try clear hi); (try clear ho0)))
 go_ret
 exact ⟨by first | rfl | (simp [errW_none, errW_some] <;> rfl) | (simp [*, errW_none, errW_some] <;> rfl), by repeat (first | (with_reducible first | exact HB.out | apply below_alloc | apply pw_below_drewN | apply below_drew1 | refine below_set ?_ GE306.out) | exact HB.out)⟩

end Go.Proofs.Ytcngebfcpobnnaa.PQ
end

/- Several texts in one: what the claim's last text rests on. No conditions. -/
import Derived.Test.YtjknkeipginpcaaMTg5
import Derived.Test.YtjknkeipginpcaaMTg7
import Derived.Test.YtjknkeipginpcaaMTg3
import Derived.Deep.QuietTactic
import Derived.BigQuiet
section
-- Written by a program of this session (pprint.py) out of the translation's print; Lean checks it.
namespace Go.Proofs.Ytjknkeipginpcaa.PQ
open Go.RowKit Go.Proofs.YtjknkeipginpcaaW.PrintWords Go.Proofs.YtjknkeipginpcaaW.PrintLast Go.Proofs.YtjknkeipginpcaaW.PrintMore
attribute [local go_sem] max2_int min2_int max_two min_two max_three min_three max_four min_four   -- for this text's walks alone
set_option linter.unusedVariables false
set_option linter.unusedSimpArgs false

--IMPORT StrOps
attribute [local go_sem] Go.Proofs.Ytjknkeipginpcaa.StrO.leq_s Go.Proofs.Ytjknkeipginpcaa.StrO.gtr_s Go.Proofs.Ytjknkeipginpcaa.StrO.geq_s
/-! ### impl_heavier: function 89 -/
def impl_heavier.f (k : Nat) (a0 : ByteArray) (a1 : ByteArray) : Option (Bool) := (impl_WeightOf.f k a0).bind fun t101 => ((impl_WeightOf.f k a1).bind fun t102 => (if t101 > t102 then (some true) else (if t101 = t102 then (some (Op.bytesLess a0.toList a1.toList)) else (some false))))
theorem impl_heavier.mono : ∀ a0 a1 k, LeO (impl_heavier.f k a0 a1) (impl_heavier.f (k + 1) a0 a1) := by
 intro a0 a1 k
 unfold impl_heavier.f
 repeat' first
   | (with_reducible exact impl_WeightOf.mono _ _)
   | (with_reducible exact LeO.refl _)
   | (with_reducible exact LeO.none _)
   | (with_reducible refine LeO.ite ?_ ?_)
   | (with_reducible refine LeO.bind ?_ (fun _ => ?_))
   | exact impl_WeightOf.mono _ _
   | exact LeO.none _
   | refine LeO.ite ?_ ?_
   | refine LeO.bind ?_ (fun _ => ?_)
set_option maxHeartbeats 8000000 in
set_option maxRecDepth 100000 in
theorem impl_heavier.calls (k : Nat) (a0 : ByteArray) (a1 : ByteArray) (r : Bool) (w : World) (h : impl_heavier.f k a0 a1 = some r) :
  Calls Try.prog 89 #[.string a0, .string a1] w fun e w' => e = .returned (.bool r) ∧ Drawn0 w w' := by
 have H : ((impl_WeightOf.f k a0).bind fun t101 => ((impl_WeightOf.f k a1).bind fun t102 => (if t101 > t102 then (some true) else (if t101 = t102 then (some (Op.bytesLess a0.toList a1.toList)) else (some false))))) = some r := h
 clear h
 replace H := Option.bind_eq_some_iff.mp H
 obtain ⟨t101, A30, H⟩ := H
 replace H : ((impl_WeightOf.f k a1).bind fun t102 => (if t101 > t102 then (some true) else (if t101 = t102 then (some (Op.bytesLess a0.toList a1.toList)) else (some false)))) = some r := H
 have A3 := Aside0.mk A30
 clear A30
 replace H := Option.bind_eq_some_iff.mp H
 obtain ⟨t102, A40, H⟩ := H
 replace H : (if t101 > t102 then (some true) else (if t101 = t102 then (some (Op.bytesLess a0.toList a1.toList)) else (some false))) = some r := H
 have A4 := Aside0.mk A40
 clear A40
 by_cases c5 : t101 > t102
 ·
  rw [if_pos c5] at H
  have c5b0 : decide (t102 < t101) = true := decide_eq_true c5
  clear c5
  obtain rfl := Option.some.inj H
  go_enter Try.func89, Try.ntmps89
  go_wp2_with (first | ((with_reducible refine gate_callee (f := 43) rfl ?_); refine goesL_ (some 8) rfl rfl Try.func43 (by kernel_rfl) rfl #[.string a0] rfl (by (try simp only [List.map_toArray, List.map_cons, List.map_nil]); first | done | rfl | (simp only [List.length_drop, List.length_take]; rfl)) ?_; (with_reducible refine (impl_WeightOf.calls k a0 t101 _ A3.out).mono ?_); rintro e w' ⟨rfl, ⟨nd, rfl⟩⟩; refine ⟨_, rfl, ?_⟩) | ((with_reducible refine gate_callee (f := 43) rfl ?_); refine goesL_ (some 10) rfl rfl Try.func43 (by kernel_rfl) rfl #[.string a1] rfl (by (try simp only [List.map_toArray, List.map_cons, List.map_nil]); first | done | rfl | (simp only [List.length_drop, List.length_take]; rfl)) ?_; (with_reducible refine (impl_WeightOf.calls k a1 t102 _ A4.out).mono ?_); rintro e w' ⟨rfl, ⟨nd, rfl⟩⟩; refine ⟨_, rfl, ?_⟩))
  go_ret
  exact ⟨by first | rfl | (simp; done) | (simp [*]; done), by repeat (first | exact Drawn0.refl _ | apply Drawn0.step)⟩
 ·
  rw [if_neg c5] at H
  have c5b0 : decide (t102 < t101) = false := decide_eq_false c5
  clear c5
  by_cases c6 : t101 = t102
  ·
   rw [if_pos c6] at H
   have c6b0 : (t101 == t102) = true := beq_iff_eq.mpr c6
   have c6b1 : (t101 != t102) = false := bne_eq_false_iff_eq.mpr c6
   clear c6
   obtain rfl := Option.some.inj H
   go_enter Try.func89, Try.ntmps89
   go_wp2_with (first | ((with_reducible refine gate_callee (f := 43) rfl ?_); refine goesL_ (some 8) rfl rfl Try.func43 (by kernel_rfl) rfl #[.string a0] rfl (by (try simp only [List.map_toArray, List.map_cons, List.map_nil]); first | done | rfl | (simp only [List.length_drop, List.length_take]; rfl)) ?_; (with_reducible refine (impl_WeightOf.calls k a0 t101 _ A3.out).mono ?_); rintro e w' ⟨rfl, ⟨nd, rfl⟩⟩; refine ⟨_, rfl, ?_⟩) | ((with_reducible refine gate_callee (f := 43) rfl ?_); refine goesL_ (some 10) rfl rfl Try.func43 (by kernel_rfl) rfl #[.string a1] rfl (by (try simp only [List.map_toArray, List.map_cons, List.map_nil]); first | done | rfl | (simp only [List.length_drop, List.length_take]; rfl)) ?_; (with_reducible refine (impl_WeightOf.calls k a1 t102 _ A4.out).mono ?_); rintro e w' ⟨rfl, ⟨nd, rfl⟩⟩; refine ⟨_, rfl, ?_⟩))
   go_ret
   exact ⟨by first | rfl | (simp; done) | (simp [*]; done), by repeat (first | exact Drawn0.refl _ | apply Drawn0.step)⟩
  ·
   rw [if_neg c6] at H
   have c6b0 : (t101 == t102) = false := beq_eq_false_iff_ne.mpr c6
   have c6b1 : (t101 != t102) = true := bne_iff_ne.mpr c6
   obtain rfl := Option.some.inj H
   go_enter Try.func89, Try.ntmps89
   go_wp2_with (first | ((with_reducible refine gate_callee (f := 43) rfl ?_); refine goesL_ (some 8) rfl rfl Try.func43 (by kernel_rfl) rfl #[.string a0] rfl (by (try simp only [List.map_toArray, List.map_cons, List.map_nil]); first | done | rfl | (simp only [List.length_drop, List.length_take]; rfl)) ?_; (with_reducible refine (impl_WeightOf.calls k a0 t101 _ A3.out).mono ?_); rintro e w' ⟨rfl, ⟨nd, rfl⟩⟩; refine ⟨_, rfl, ?_⟩) | ((with_reducible refine gate_callee (f := 43) rfl ?_); refine goesL_ (some 10) rfl rfl Try.func43 (by kernel_rfl) rfl #[.string a1] rfl (by (try simp only [List.map_toArray, List.map_cons, List.map_nil]); first | done | rfl | (simp only [List.length_drop, List.length_take]; rfl)) ?_; (with_reducible refine (impl_WeightOf.calls k a1 t102 _ A4.out).mono ?_); rintro e w' ⟨rfl, ⟨nd, rfl⟩⟩; refine ⟨_, rfl, ?_⟩))
   go_ret
   exact ⟨by first | rfl | (simp; done) | (simp [*]; done), by repeat (first | exact Drawn0.refl _ | apply Drawn0.step)⟩

end Go.Proofs.Ytjknkeipginpcaa.PQ
end

section
-- Written by a program of this session (pprint.py) out of the translation's print; Lean checks it.
namespace Go.Proofs.Ytjknkeipginpcaa.PQ
open Go.RowKit Go.Proofs.YtjknkeipginpcaaW.PrintWords Go.Proofs.YtjknkeipginpcaaW.PrintLast Go.Proofs.YtjknkeipginpcaaW.PrintMore
attribute [local go_sem] max2_int min2_int max_two min_two max_three min_three max_four min_four   -- for this text's walks alone
set_option linter.unusedVariables false
set_option linter.unusedSimpArgs false

--IMPORT StrOps
attribute [local go_sem] Go.Proofs.Ytjknkeipginpcaa.StrO.leq_s Go.Proofs.Ytjknkeipginpcaa.StrO.gtr_s Go.Proofs.Ytjknkeipginpcaa.StrO.geq_s
/-! ### spec_l7Above: function 88 -/
def spec_l7Above.f (k : Nat) (a0 : ByteArray) (a1 : ByteArray) : Option (Bool) := (spec_WeightOf.f k a0).bind fun t137 => ((spec_WeightOf.f k a1).bind fun t138 => (if t137 > t138 then (some true) else (if t137 = t138 then (some (Op.bytesLess a0.toList a1.toList)) else (some false))))
theorem spec_l7Above.mono : ∀ a0 a1 k, LeO (spec_l7Above.f k a0 a1) (spec_l7Above.f (k + 1) a0 a1) := by
 intro a0 a1 k
 unfold spec_l7Above.f
 repeat' first
   | (with_reducible exact spec_WeightOf.mono _ _)
   | (with_reducible exact LeO.refl _)
   | (with_reducible exact LeO.none _)
   | (with_reducible refine LeO.ite ?_ ?_)
   | (with_reducible refine LeO.bind ?_ (fun _ => ?_))
   | exact spec_WeightOf.mono _ _
   | exact LeO.none _
   | refine LeO.ite ?_ ?_
   | refine LeO.bind ?_ (fun _ => ?_)
set_option maxHeartbeats 8000000 in
set_option maxRecDepth 100000 in
theorem spec_l7Above.calls (k : Nat) (a0 : ByteArray) (a1 : ByteArray) (r : Bool) (w : World) (h : spec_l7Above.f k a0 a1 = some r) :
  Calls Try.prog 88 #[.string a0, .string a1] w fun e w' => e = .returned (.bool r) ∧ Drawn0 w w' := by
 have H : ((spec_WeightOf.f k a0).bind fun t137 => ((spec_WeightOf.f k a1).bind fun t138 => (if t137 > t138 then (some true) else (if t137 = t138 then (some (Op.bytesLess a0.toList a1.toList)) else (some false))))) = some r := h
 clear h
 replace H := Option.bind_eq_some_iff.mp H
 obtain ⟨t137, A30, H⟩ := H
 replace H : ((spec_WeightOf.f k a1).bind fun t138 => (if t137 > t138 then (some true) else (if t137 = t138 then (some (Op.bytesLess a0.toList a1.toList)) else (some false)))) = some r := H
 have A3 := Aside0.mk A30
 clear A30
 replace H := Option.bind_eq_some_iff.mp H
 obtain ⟨t138, A40, H⟩ := H
 replace H : (if t137 > t138 then (some true) else (if t137 = t138 then (some (Op.bytesLess a0.toList a1.toList)) else (some false))) = some r := H
 have A4 := Aside0.mk A40
 clear A40
 by_cases c5 : t137 > t138
 ·
  rw [if_pos c5] at H
  have c5b0 : decide (t138 < t137) = true := decide_eq_true c5
  clear c5
  obtain rfl := Option.some.inj H
  go_enter Try.func88, Try.ntmps88
  go_wp2_with (first | ((with_reducible refine gate_callee (f := 44) rfl ?_); refine goesL_ (some 8) rfl rfl Try.func44 (by kernel_rfl) rfl #[.string a0] rfl (by (try simp only [List.map_toArray, List.map_cons, List.map_nil]); first | done | rfl | (simp only [List.length_drop, List.length_take]; rfl)) ?_; (with_reducible refine (spec_WeightOf.calls k a0 t137 _ A3.out).mono ?_); rintro e w' ⟨rfl, ⟨nd, rfl⟩⟩; refine ⟨_, rfl, ?_⟩) | ((with_reducible refine gate_callee (f := 44) rfl ?_); refine goesL_ (some 10) rfl rfl Try.func44 (by kernel_rfl) rfl #[.string a1] rfl (by (try simp only [List.map_toArray, List.map_cons, List.map_nil]); first | done | rfl | (simp only [List.length_drop, List.length_take]; rfl)) ?_; (with_reducible refine (spec_WeightOf.calls k a1 t138 _ A4.out).mono ?_); rintro e w' ⟨rfl, ⟨nd, rfl⟩⟩; refine ⟨_, rfl, ?_⟩))
  go_ret
  exact ⟨by first | rfl | (simp; done) | (simp [*]; done), by repeat (first | exact Drawn0.refl _ | apply Drawn0.step)⟩
 ·
  rw [if_neg c5] at H
  have c5b0 : decide (t138 < t137) = false := decide_eq_false c5
  clear c5
  by_cases c6 : t137 = t138
  ·
   rw [if_pos c6] at H
   have c6b0 : (t137 == t138) = true := beq_iff_eq.mpr c6
   have c6b1 : (t137 != t138) = false := bne_eq_false_iff_eq.mpr c6
   clear c6
   obtain rfl := Option.some.inj H
   go_enter Try.func88, Try.ntmps88
   go_wp2_with (first | ((with_reducible refine gate_callee (f := 44) rfl ?_); refine goesL_ (some 8) rfl rfl Try.func44 (by kernel_rfl) rfl #[.string a0] rfl (by (try simp only [List.map_toArray, List.map_cons, List.map_nil]); first | done | rfl | (simp only [List.length_drop, List.length_take]; rfl)) ?_; (with_reducible refine (spec_WeightOf.calls k a0 t137 _ A3.out).mono ?_); rintro e w' ⟨rfl, ⟨nd, rfl⟩⟩; refine ⟨_, rfl, ?_⟩) | ((with_reducible refine gate_callee (f := 44) rfl ?_); refine goesL_ (some 10) rfl rfl Try.func44 (by kernel_rfl) rfl #[.string a1] rfl (by (try simp only [List.map_toArray, List.map_cons, List.map_nil]); first | done | rfl | (simp only [List.length_drop, List.length_take]; rfl)) ?_; (with_reducible refine (spec_WeightOf.calls k a1 t138 _ A4.out).mono ?_); rintro e w' ⟨rfl, ⟨nd, rfl⟩⟩; refine ⟨_, rfl, ?_⟩))
   go_ret
   exact ⟨by first | rfl | (simp; done) | (simp [*]; done), by repeat (first | exact Drawn0.refl _ | apply Drawn0.step)⟩
  ·
   rw [if_neg c6] at H
   have c6b0 : (t137 == t138) = false := beq_eq_false_iff_ne.mpr c6
   have c6b1 : (t137 != t138) = true := bne_iff_ne.mpr c6
   obtain rfl := Option.some.inj H
   go_enter Try.func88, Try.ntmps88
   go_wp2_with (first | ((with_reducible refine gate_callee (f := 44) rfl ?_); refine goesL_ (some 8) rfl rfl Try.func44 (by kernel_rfl) rfl #[.string a0] rfl (by (try simp only [List.map_toArray, List.map_cons, List.map_nil]); first | done | rfl | (simp only [List.length_drop, List.length_take]; rfl)) ?_; (with_reducible refine (spec_WeightOf.calls k a0 t137 _ A3.out).mono ?_); rintro e w' ⟨rfl, ⟨nd, rfl⟩⟩; refine ⟨_, rfl, ?_⟩) | ((with_reducible refine gate_callee (f := 44) rfl ?_); refine goesL_ (some 10) rfl rfl Try.func44 (by kernel_rfl) rfl #[.string a1] rfl (by (try simp only [List.map_toArray, List.map_cons, List.map_nil]); first | done | rfl | (simp only [List.length_drop, List.length_take]; rfl)) ?_; (with_reducible refine (spec_WeightOf.calls k a1 t138 _ A4.out).mono ?_); rintro e w' ⟨rfl, ⟨nd, rfl⟩⟩; refine ⟨_, rfl, ?_⟩))
   go_ret
   exact ⟨by first | rfl | (simp; done) | (simp [*]; done), by repeat (first | exact Drawn0.refl _ | apply Drawn0.step)⟩

end Go.Proofs.Ytjknkeipginpcaa.PQ
end

section
/- Treaps: what weighs more, and the limbs of rising keys. No conditions. -/
namespace Go.Proofs.Ytjknkeipginpcaa.Tr
set_option linter.unusedVariables false
open Go.RowKit Go.Proofs.Ytjknkeipginpcaa.PQ Go.Proofs.YtjknkeipginpcaaW.PrintWords Go.Proofs.YtjknkeipginpcaaW.PrintLast Go.Proofs.Ytjknkeipginpcaa.Pre

abbrev KV := ByteArray × ByteArray
def zKV : KV := (⟨#[]⟩, ⟨#[]⟩)
/-- The weight of a key. -/
def wst (s : ByteArray) (h : Int) (i : Nat) : Int := Int.tmod (Go.bits .xor .i64 (wrap64 (33 * h)) (wrap64 (bt s (i : Int)))) 1000003
def wfrom (s : ByteArray) : Nat → Nat → Int → Int
  | 0, _, h => h
  | m + 1, i, h => wfrom s m (i + 1) (wst s h i)
def wt (s : ByteArray) : Int := Int.tmod (wrap64 (wfrom s s.size 0 5381 * 7919)) 1000003
theorem wtI_ev (s : ByteArray) (hs : s.size ≤ 1048576) : Evt (fun k => impl_WeightOf.f k s) (wt s) := by
  unfold impl_WeightOf.f wt
  have key : ∀ (m i : Nat) (h : Int), i + m = s.size → Evt (fun k => impl_WeightOf.l0 k s h (s.size : Int) (i : Int)) (Int.tmod (wrap64 (wfrom s m i h * 7919)) 1000003) := by
    intro m
    induction m with
    | zero => intro i h hi; exact Evt.step (fun k => impl_WeightOf.l0.eq_2 _ _ _ _ k) (Evt.neg (by omega) (Evt.const _))
    | succ m ih =>
      intro i h hi
      have hr := ih (i + 1) (wst s h i) (by omega)
      refine Evt.step (fun k => impl_WeightOf.l0.eq_2 _ _ _ _ k) (Evt.pos (by omega) (Evt.pos (by omega) (Evt.pos (by omega) ?_)))
      rw [w64 (n := (i : Int) + 1) (by omega) (by omega), show (i : Int) + 1 = ((i + 1 : Nat) : Int) by omega]
      exact hr
  exact key s.size 0 5381 (by omega)
theorem wtS_ev (s : ByteArray) (hs : s.size ≤ 1048576) : Evt (fun k => spec_WeightOf.f k s) (wt s) := by
  unfold spec_WeightOf.f wt
  have key : ∀ (m i : Nat) (h : Int), i + m = s.size → Evt (fun k => spec_WeightOf.l0 k s h (i : Int)) (Int.tmod (wrap64 (wfrom s m i h * 7919)) 1000003) := by
    intro m
    induction m with
    | zero => intro i h hi; exact Evt.step (fun k => spec_WeightOf.l0.eq_2 _ _ _ k) (Evt.neg (by omega) (Evt.const _))
    | succ m ih =>
      intro i h hi
      have hr := ih (i + 1) (wst s h i) (by omega)
      refine Evt.step (fun k => spec_WeightOf.l0.eq_2 _ _ _ k) (Evt.pos (by omega) (Evt.pos (by omega) ?_))
      rw [w64 (n := (i : Int) + 1) (by omega) (by omega), show (i : Int) + 1 = ((i + 1 : Nat) : Int) by omega]
      exact hr
  exact key s.size 0 5381 (by omega)
/-- A key stands above another one. -/
def hvy (a b : ByteArray) : Bool := if wt a > wt b then true else if wt a = wt b then Op.bytesLess a.toList b.toList else false
theorem heavI_ev (a b : ByteArray) (ha : a.size ≤ 1048576) (hb : b.size ≤ 1048576) : Evt (fun k => impl_heavier.f k a b) (hvy a b) := by
  unfold impl_heavier.f hvy
  refine Evt.bind (wtI_ev a ha) (Evt.bind (wtI_ev b hb) ?_)
  by_cases h : wt a > wt b
  · exact (Evt.pos h (Evt.const _)).eq (if_pos h).symm
  · refine (Evt.neg h ?_).eq (if_neg h).symm
    by_cases h2 : wt a = wt b
    · exact (Evt.pos h2 (Evt.const _)).eq (if_pos h2).symm
    · exact (Evt.neg h2 (Evt.const _)).eq (if_neg h2).symm
theorem heavS_ev (a b : ByteArray) (ha : a.size ≤ 1048576) (hb : b.size ≤ 1048576) : Evt (fun k => spec_l7Above.f k a b) (hvy a b) := by
  unfold spec_l7Above.f hvy
  refine Evt.bind (wtS_ev a ha) (Evt.bind (wtS_ev b hb) ?_)
  by_cases h : wt a > wt b
  · exact (Evt.pos h (Evt.const _)).eq (if_pos h).symm
  · refine (Evt.neg h ?_).eq (if_neg h).symm
    by_cases h2 : wt a = wt b
    · exact (Evt.pos h2 (Evt.const _)).eq (if_pos h2).symm
    · exact (Evt.neg h2 (Evt.const _)).eq (if_neg h2).symm
theorem heavI (a b : ByteArray) (ha : a.size ≤ 1048576) (hb : b.size ≤ 1048576) (w : World) : Calls Try.prog 89 #[.string a, .string b] w fun e w' => e = .returned (.bool (hvy a b)) ∧ ∃ m, w' = w.drewN m := by
  obtain ⟨k, h⟩ := (heavI_ev a b ha hb).ex
  refine (impl_heavier.calls k a b _ w h).mono ?_
  rintro e w' ⟨rfl, ⟨nd, rfl⟩⟩
  exact ⟨rfl, nd, rfl⟩
theorem heavS (a b : ByteArray) (ha : a.size ≤ 1048576) (hb : b.size ≤ 1048576) (w : World) : Calls Try.prog 88 #[.string a, .string b] w fun e w' => e = .returned (.bool (hvy a b)) ∧ ∃ m, w' = w.drewN m := by
  obtain ⟨k, h⟩ := (heavS_ev a b ha hb).ex
  refine (spec_l7Above.calls k a b _ w h).mono ?_
  rintro e w' ⟨rfl, ⟨nd, rfl⟩⟩
  exact ⟨rfl, nd, rfl⟩

/-- The heaviest of the first keys. -/
def topF (l : List KV) : Nat → Nat
  | 0 => 0
  | i + 1 => if hvy (l.getD i zKV).1 (l.getD (topF l i) zKV).1 = true then i else topF l i
theorem topF_lt (l : List KV) (hl : 0 < l.length) : ∀ i, i ≤ l.length → topF l i < l.length
  | 0, _ => hl
  | i + 1, h => by
    unfold topF
    split
    · omega
    · exact topF_lt l hl i (by omega)
def top (l : List KV) : Nat := topF l l.length
theorem top_lt (l : List KV) (hl : 0 < l.length) : top l < l.length := topF_lt l hl _ (Nat.le_refl _)
/-- The number of the root of what is laid from a place on. -/
def rt (b : Nat) (l : List KV) : Int := if l.length = 0 then -1 else (b : Int)
abbrev Lb := S71
def enc : Nat → Nat → List KV → List Lb
  | 0, _, _ => []
  | n + 1, b, l => if l.length = 0 then [] else ⟨(l.getD (top l) zKV).1, (l.getD (top l) zKV).2, rt (b + 1) (l.take (top l)), rt (b + 1 + top l) (l.drop (top l + 1))⟩ :: (enc n (b + 1) (l.take (top l)) ++ enc n (b + 1 + top l) (l.drop (top l + 1)))
theorem enc_len : ∀ (n b : Nat) (l : List KV), l.length ≤ n → (enc n b l).length = l.length
  | 0, b, l, h => by simp [enc]; omega
  | n + 1, b, l, h => by
    unfold enc
    by_cases hz : l.length = 0
    · rw [if_pos hz, hz]
      rfl
    · rw [if_neg hz]
      have ht := top_lt l (by omega)
      have h1 := enc_len n (b + 1) (l.take (top l)) (by rw [List.length_take]; omega)
      have h2 := enc_len n (b + 1 + top l) (l.drop (top l + 1)) (by rw [List.length_drop]; omega)
      rw [List.length_cons, List.length_append, h1, h2, List.length_take, List.length_drop]
      omega
theorem rt_pos (b : Nat) (l : List KV) (h : l.length ≠ 0) : rt b l = (b : Int) := if_neg h
/-- Stores into a limb. -/
theorem put2 {W : World} {base g n cap : Nat} {ok : Nat → Prop} {xs : List Lb} (h : Kd.R k71 71 W base ok (.slice (some ⟨g, 0, none⟩) n cap) xs) (i : Nat) (hi : i < n) (x : Int) :
    W.cell? ⟨g, i * 4 + 2, none⟩ = some (.int .i64 (rd_T71 xs (i : Int)).f2) ∧ W.frozen? ⟨g, i * 4 + 2, none⟩ = false ∧
    Kd.R k71 71 (W.setCell ⟨g, i * 4 + 2, none⟩ (.int .i64 x)) base ok (.slice (some ⟨g, 0, none⟩) n cap) (xs.set i ⟨(rd_T71 xs (i : Int)).f0, (rd_T71 xs (i : Int)).f1, x, (rd_T71 xs (i : Int)).f3⟩) := by
  obtain ⟨ce, hcl, hM, hcc, hfr⟩ := Kd.R_elem h z71 (i : Int) (by omega) (by omega)
  obtain rfl := k71_openM hM
  have hx : W.cell? ⟨g, (i : Int).toNat * 4 + 2, none⟩ = some (.int .i64 (rd_T71 xs (i : Int)).f2) := hcc 2 _ rfl
  have hf : W.frozen? ⟨g, (i : Int).toNat * 4 + 2, none⟩ = false := hfr 2
  have hp := (Kd.R_seg h (i : Int) (by omega) (by omega) (seg := [.int .i64 x]) (j := 2) hcl hcc (show 2 + 1 ≤ 4 from by decide) (x' := (⟨(rd_T71 xs (i : Int)).f0, (rd_T71 xs (i : Int)).f1, x, (rd_T71 xs (i : Int)).f3⟩ : Lb)) (k71_mkM _ _ _ _) (fun _ hk => hk)).1
  rw [Int.toNat_natCast] at hx hf hp
  exact ⟨hx, hf, hp⟩
theorem put3 {W : World} {base g n cap : Nat} {ok : Nat → Prop} {xs : List Lb} (h : Kd.R k71 71 W base ok (.slice (some ⟨g, 0, none⟩) n cap) xs) (i : Nat) (hi : i < n) (x : Int) :
    W.cell? ⟨g, i * 4 + 3, none⟩ = some (.int .i64 (rd_T71 xs (i : Int)).f3) ∧ W.frozen? ⟨g, i * 4 + 3, none⟩ = false ∧
    Kd.R k71 71 (W.setCell ⟨g, i * 4 + 3, none⟩ (.int .i64 x)) base ok (.slice (some ⟨g, 0, none⟩) n cap) (xs.set i ⟨(rd_T71 xs (i : Int)).f0, (rd_T71 xs (i : Int)).f1, (rd_T71 xs (i : Int)).f2, x⟩) := by
  obtain ⟨ce, hcl, hM, hcc, hfr⟩ := Kd.R_elem h z71 (i : Int) (by omega) (by omega)
  obtain rfl := k71_openM hM
  have hx : W.cell? ⟨g, (i : Int).toNat * 4 + 3, none⟩ = some (.int .i64 (rd_T71 xs (i : Int)).f3) := hcc 3 _ rfl
  have hf : W.frozen? ⟨g, (i : Int).toNat * 4 + 3, none⟩ = false := hfr 3
  have hp := (Kd.R_seg h (i : Int) (by omega) (by omega) (seg := [.int .i64 x]) (j := 3) hcl hcc (show 3 + 1 ≤ 4 from by decide) (x' := (⟨(rd_T71 xs (i : Int)).f0, (rd_T71 xs (i : Int)).f1, (rd_T71 xs (i : Int)).f2, x⟩ : Lb)) (k71_mkM _ _ _ _) (fun _ hk => hk)).1
  rw [Int.toNat_natCast] at hx hf hp
  exact ⟨hx, hf, hp⟩
/-- The list behind both stores. -/
def put23 (ys : List Lb) (i : Nat) (ra rb : Int) : List Lb :=
  (ys.set i ⟨(rd_T71 ys (i : Int)).f0, (rd_T71 ys (i : Int)).f1, ra, (rd_T71 ys (i : Int)).f3⟩).set i
    ⟨(rd_T71 (ys.set i ⟨(rd_T71 ys (i : Int)).f0, (rd_T71 ys (i : Int)).f1, ra, (rd_T71 ys (i : Int)).f3⟩) (i : Int)).f0, (rd_T71 (ys.set i ⟨(rd_T71 ys (i : Int)).f0, (rd_T71 ys (i : Int)).f1, ra, (rd_T71 ys (i : Int)).f3⟩) (i : Int)).f1, (rd_T71 (ys.set i ⟨(rd_T71 ys (i : Int)).f0, (rd_T71 ys (i : Int)).f1, ra, (rd_T71 ys (i : Int)).f3⟩) (i : Int)).f2, rb⟩
theorem put23_eq (A B : List Lb) (k v : ByteArray) (p q ra rb : Int) : put23 (A ++ [⟨k, v, p, q⟩] ++ B) A.length ra rb = A ++ [⟨k, v, ra, rb⟩] ++ B := by
  have h1 : ∀ (y : Lb) (C : List Lb), rd_T71 (A ++ [y] ++ C) (A.length : Int) = y := by
    intro y C
    unfold rd_T71
    simp
  have h2 : ∀ (y z : Lb) (C : List Lb), (A ++ [y] ++ C).set A.length z = A ++ [z] ++ C := by
    intro y z C
    simp
  unfold put23
  rw [h1, h2, h1, h2]
theorem final_list (kx vx : ByteArray) (ra rb : Int) (out out1 ys EL : List Lb) (n m : Nat) (L : List KV) (h1 : out1 = out ++ [⟨kx, vx, 0, 0⟩]) (hm : m = top L) (hx : (L.getD m zKV).1 = kx ∧ (L.getD m zKV).2 = vx) (hL : L.length ≠ 0) (hra : ra = rt (out.length + 1) (L.take m)) (hEL : EL = enc n (out.length + 1) (L.take m)) (hEl : EL.length = m) (hrb : rb = rt (out.length + 1 + m) (L.drop (m + 1))) (hys : ys = out1 ++ EL ++ enc n (out.length + 1 + m) (L.drop (m + 1))) :
    put23 ys out.length ra rb = out ++ enc (n + 1) out.length L := by
  rw [hys, h1, List.append_assoc, put23_eq]
  have e : enc (n + 1) out.length L = ⟨(L.getD (top L) zKV).1, (L.getD (top L) zKV).2, rt (out.length + 1) (L.take (top L)), rt (out.length + 1 + top L) (L.drop (top L + 1))⟩ :: (enc n (out.length + 1) (L.take (top L)) ++ enc n (out.length + 1 + top L) (L.drop (top L + 1))) := by
    conv => lhs; unfold enc
    rw [if_neg hL]
  rw [e, ← hm, hx.1, hx.2, hra, hrb, hEL]
  simp
end Go.Proofs.Ytjknkeipginpcaa.Tr
end

section
/- loop.example/g00274/impl.build, by hand. No conditions. -/
namespace Go.Proofs.Ytjknkeipginpcaa.BuI
set_option linter.unusedVariables false
set_option linter.unusedSimpArgs false
open Go.RowKit Go.Proofs.Ytjknkeipginpcaa.PQ Go.Proofs.YtjknkeipginpcaaW.PrintWords Go.Proofs.YtjknkeipginpcaaW.PrintLast Go.Proofs.YtjknkeipginpcaaW.PrintMore Go.Proofs.Ytjknkeipginpcaa.Pre Go.Proofs.Ytjknkeipginpcaa.Tr

def kv (x : S80) : KV := (x.f0, x.f1)
theorem kv_key (l : List S80) (i : Nat) (hi : i < l.length) : ((l.map kv).getD i zKV).1 = (rd_T80 l (i : Int)).f0 ∧ ((l.map kv).getD i zKV).2 = (rd_T80 l (i : Int)).f1 := by
  unfold rd_T80
  simp [hi, kv]
theorem rdE_nat (l : List S80) (i : Nat) (w : World) (A : Option Addr) (h : Kd.C k80 w A l.length l) (hi : i < l.length) : ∃ ad, A = some ad ∧ w.cell? (ad.add (i * 2)) = some (.string (rd_T80 l (i : Int)).f0) ∧ w.cell? ⟨(ad.add (i * 2)).block, (ad.add (i * 2)).off + 1, none⟩ = some (.string (rd_T80 l (i : Int)).f1) := by
  obtain ⟨ad, e, h1, h2⟩ := at_T80 h (i : Int) (by omega) (by omega)
  rw [Int.toNat_natCast] at h1 h2
  exact ⟨ad, e, h1, h2⟩

set_option maxHeartbeats 4000000 in
set_option maxRecDepth 100000 in
theorem calls : ∀ (n : Nat) (l : List S80) (A1 : Option Addr) (c1 : Nat) (v : Value) (out : List S71) (w0 w : World) (lo : Nat), l.length ≤ n → Kd.C k80 w0 A1 l.length l → l.length ≤ c1 → Below w0.heap.size w0 w → w0.heap.size ≤ lo → lo ≤ w.heap.size → Kd.R k71 71 w lo (fun _ => True) v out → out.length + l.length ≤ 1048576 → (∀ i : Nat, i < l.length → (rd_T80 l (i : Int)).f0.size ≤ 1048576) →
    Calls Try.prog 79 #[v, .slice A1 l.length c1] w fun e w' => ∃ v' : Value, e = .returned (.tuple #[v', .int .i64 (rt out.length (l.map kv))]) ∧ Kd.R k71 71 w' lo (fun _ => True) v' (out ++ enc n out.length (l.map kv)) ∧ Below lo w w' := by
  intro n
  induction n with
  | zero =>
    intro l A1 c1 v out w0 w lo hn hC hc1 hB0 hlo hlow hR hsz hks
    obtain rfl : l = [] := List.eq_nil_of_length_eq_zero (by omega)
    have HR := Aside0.mk hR
    clear hR hC hB0
    go_enter Try.func79, Try.ntmps79
    go_wp2
    go_ret2
    exact ⟨_, rfl, by rw [show enc 0 out.length (([] : List S80).map kv) = [] from rfl, List.append_nil]; exact HR.out, Below.refl _ _⟩
  | succ n ih =>
    intro l A1 c1 v out w0 w lo hn hC hc1 hB0 hlo hlow hR hsz hks
    obtain ⟨Ao, co, ev, hco, _⟩ := Kd.R_reads hR
    subst ev
    have HR := Aside0.mk hR
    by_cases hz : l.length = 0
    · obtain rfl : l = [] := List.eq_nil_of_length_eq_zero hz
      clear hR hC hB0 ih
      go_enter Try.func79, Try.ntmps79
      go_wp2
      go_ret2
      exact ⟨_, rfl, by rw [show enc (n + 1) out.length (([] : List S80).map kv) = [] from rfl, List.append_nil]; exact HR.out, Below.refl _ _⟩
    · have HC := Aside0.mk hC
      have HC1 := Aside0.mk hc1
      have HB0 := Aside0.mk hB0
      have HL := Aside0.mk (⟨hlo, hlow, hn, by omega⟩ : w0.heap.size ≤ lo ∧ lo ≤ w.heap.size ∧ l.length ≤ n + 1 ∧ 0 < l.length)
      have HSZ := Aside0.mk hsz
      have HKS := Aside0.mk hks
      have HIH := Aside0.mk ih
      have hz2 : ((l.length : Int) == 0) = false := by rw [beq_eq_false_iff_ne]; omega
      have hz3 : ¬ (l.length : Int) = 0 := by omega
      have hlb : (l.length : Int) ≤ 1048576 := by omega
      clear hR hC hc1 hB0 hlo hlow hn hsz hks ih hz
      go_enter Try.func79, Try.ntmps79
      go_wp2
      go_loopg [6, 17] l.length (fun kq v6 v17 w' => ∃ i : Nat, v6 = .int .i64 ((topF (l.map kv) i : Nat) : Int) ∧ v17 = .int .i64 (i : Int) ∧ i ≤ l.length ∧ kq = l.length - i ∧ ∃ q, w' = w.drewN q)
      case atStart => exact ⟨0, rfl, rfl, Nat.zero_le _, rfl, 0, rfl⟩
      case round =>
        obtain ⟨i, rfl, rfl, hi, hk, q, hw⟩ := hrel
        have HW := Aside0.mk hw
        have htl := topF_lt (l.map kv) (by rw [List.length_map]; exact HL.out.2.2.2) i (by rw [List.length_map]; exact hi)
        rw [List.length_map] at htl
        have HCw := Aside0.mk (Kd.C_below HC.out HB0.out)
        by_cases hlt : i < l.length
        · obtain ⟨tp, htp⟩ : ∃ tp, tp = topF (l.map kv) i := ⟨_, rfl⟩
          rw [← htp] at htl ⊢
          obtain ⟨ad, e, h1, _⟩ := rdE_nat l i w A1 HCw.out hlt
          subst e
          obtain ⟨ad', e, h2, _⟩ := rdE_nat l tp w (some ad) HCw.out htl
          cases e
          have h1' : wr.cell? (ad.add (i * 2)) = some (.string (rd_T80 l (i : Int)).f0) := by rw [hw]; exact h1
          have h2' : wr.cell? (ad.add (tp * 2)) = some (.string (rd_T80 l (tp : Int)).f0) := by rw [hw]; exact h2
          clear hw
          have hstep : topF (l.map kv) (i + 1) = if hvy (rd_T80 l (i : Int)).f0 (rd_T80 l (tp : Int)).f0 = true then i else tp := by
            show (if hvy ((l.map kv).getD i zKV).1 ((l.map kv).getD (topF (l.map kv) i) zKV).1 = true then i else topF (l.map kv) i) = _
            rw [← htp, (kv_key l i hlt).1, (kv_key l tp htl).1]
          have HST := Aside0.mk hstep
          have hsi := HKS.out i hlt
          have hst := HKS.out tp htl
          have HV := fun W => heavI (rd_T80 l (i : Int)).f0 (rd_T80 l (tp : Int)).f0 hsi hst W
          generalize (rd_T80 l (i : Int)).f0 = ka at *
          generalize (rd_T80 l (tp : Int)).f0 = kb at *
          have hi2 : (i : Int) < (l.length : Int) := by omega
          have ht2 : (tp : Int) < (l.length : Int) := by omega
          clear h1 h2 hstep hsi hst htp
          cases hb : hvy ka kb with
          | true =>
            rw [hb] at HV
            have HHV := Aside0.mk HV
            clear HV
            go_wp2
            go_quiet ((go_at_call 89; exact Calls.quiet_of (HHV.out _)))
            go_wp2
            go_roundg (l.length - (i + 1))
            case measure => omega
            case rel => exact ⟨i + 1, by rw [HST.out, if_pos hb], by go_num, by omega, rfl, q + nq, by rw [HW.out, World.drewN_drewN]⟩
          | false =>
            rw [hb] at HV
            have HHV := Aside0.mk HV
            clear HV
            go_wp2
            go_quiet ((go_at_call 89; exact Calls.quiet_of (HHV.out _)))
            go_wp2
            go_roundg (l.length - (i + 1))
            case measure => omega
            case rel => exact ⟨i + 1, by rw [HST.out, if_neg (by rw [hb]; decide)], by go_num, by omega, rfl, q + nq, by rw [HW.out, World.drewN_drewN]⟩
        · obtain rfl : i = l.length := by omega
          obtain ⟨m, hm⟩ : ∃ m, m = topF (l.map kv) l.length := ⟨_, rfl⟩
          rw [← hm] at htl ⊢
          have HMT := Aside0.mk (show m = top (l.map kv) by rw [hm]; unfold top; rw [List.length_map])
          obtain ⟨x, hx⟩ : ∃ x, x = rd_T80 l (m : Int) := ⟨_, rfl⟩
          obtain ⟨ad, e, h1, h2⟩ := rdE_nat l m w0 A1 HC.out htl
          subst e
          rw [← hx] at h1 h2
          have HX := Aside0.mk (show ((l.map kv).getD m zKV).1 = x.f0 ∧ ((l.map kv).getD m zKV).2 = x.f1 by rw [hx]; exact kv_key l m htl)
          have HH := Aside0.mk (fun (W : World) (hb : Below w0.heap.size w0 W) => (⟨(hb.cell (World.block_lt_of_cell? w0 _ h1)).trans h1, (hb.cell (World.block_lt_of_cell? w0 _ h2)).trans h2⟩ : W.cell? (ad.add (m * 2)) = some (.string x.f0) ∧ W.cell? ⟨(ad.add (m * 2)).block, (ad.add (m * 2)).off + 1, none⟩ = some (.string x.f1)))
          have HBW := Aside0.mk (show Below w0.heap.size w0 wr by rw [hw]; exact pw_below_drewN HB0.out q)
          have HBl1 := Aside0.mk (show Below lo w wr by rw [hw]; exact pw_below_drewN (Below.refl _ _) q)
          have HO1 := Aside0.mk (show Kd.R k71 71 wr lo (fun _ => True) (.slice Ao out.length co) out by rw [hw]; exact Kd.R_drewN HR.out q)
          have HLo1 := Aside0.mk (show lo ≤ wr.heap.size by rw [hw]; exact HL.out.2.1)
          have hml : (m : Int) < (l.length : Int) := by omega
          have HM := Aside0.mk htl
          clear hm hx h1 h2 hw HW htl
          go_upto_region 11 with (fail)
          refine start_ (n := 15) (S := fun w' => w'.cell? (ad.add (m * 2)) = some (.string x.f0) ∧ w'.cell? ⟨(ad.add (m * 2)).block, (ad.add (m * 2)).off + 1, none⟩ = some (.string x.f1)) (ds := []) #[false, false, false, false, false, false, false, false, false, false, false, false, false, false, false] (by kernel_rfl) rfl rfl ⟨(HH.out wr.drew HBW.out.drew).1, (HH.out wr.drew HBW.out.drew).2⟩ (fun hHeld => ?_)
          refine pure_ (i := 0) (N := some 35) (v := ?_) (a' := ?_) #[true, false, false, false, false, false, false, false, false, false, false, false, false, false, false] rfl rfl (by kernel_rfl) (fun _ _ _ h => h) (Or.inl ⟨by rfl, ?_⟩) ?_ ?_
          rotate_left
          · intro w'
            go_simp
            with_reducible rfl
          rotate_left
          · simp only [Act.put, List.setIfInBounds_toArray, List.set_cons_zero, List.set_cons_succ, i64_w, i32_w]
            rfl
          refine pure_ (i := 1) (N := some 36) (v := ?_) (a' := ?_) #[true, true, false, false, false, false, false, false, false, false, false, false, false, false, false] rfl rfl (by kernel_rfl) (fun _ _ _ h => h) (Or.inl ⟨by rfl, ?_⟩) ?_ ?_
          rotate_left
          · intro w'
            go_simp
            with_reducible rfl
          rotate_left
          · simp only [Act.put, List.setIfInBounds_toArray, List.set_cons_zero, List.set_cons_succ, i64_w, i32_w]
            rfl
          refine pure_ (i := 2) (N := some 37) (v := ?_) (a' := ?_) #[true, true, true, false, false, false, false, false, false, false, false, false, false, false, false] rfl rfl (by kernel_rfl) (fun _ _ _ h => h) (Or.inl ⟨by rfl, ?_⟩) ?_ ?_
          rotate_left
          · intro w'
            go_simp
            with_reducible rfl
          rotate_left
          · simp only [Act.put, List.setIfInBounds_toArray, List.set_cons_zero, List.set_cons_succ, i64_w, i32_w]
            rfl
          refine pure_ (i := 3) (N := some 38) (v := ?_) (a' := ?_) #[true, true, true, true, false, false, false, false, false, false, false, false, false, false, false] rfl rfl (by kernel_rfl) (fun _ _ _ h => h) (Or.inl ⟨by rfl, ?_⟩) ?_ ?_
          rotate_left
          · intro w'
            go_simp
            with_reducible rfl
          rotate_left
          · simp only [Act.put, List.setIfInBounds_toArray, List.set_cons_zero, List.set_cons_succ, i64_w, i32_w]
            rfl
          refine pure_ (i := 4) (N := some 39) (v := ?_) (a' := ?_) #[true, true, true, true, true, false, false, false, false, false, false, false, false, false, false] rfl rfl (by kernel_rfl) (fun _ _ _ h => h) (Or.inl ⟨by rfl, ?_⟩) ?_ ?_
          rotate_left
          · intro w'
            go_simp
            with_reducible rfl
          rotate_left
          · simp only [Act.put, List.setIfInBounds_toArray, List.set_cons_zero, List.set_cons_succ, i64_w, i32_w]
            rfl
          refine pure_ (i := 6) (N := some 41) (v := ?_) (a' := ?_) #[true, true, true, true, true, false, true, false, false, false, false, false, false, false, false] rfl rfl (by kernel_rfl) (fun _ _ _ h => h) (Or.inl ⟨by rfl, ?_⟩) ?_ ?_
          rotate_left
          · intro w'
            go_simp
            with_reducible rfl
          rotate_left
          · simp only [Act.put, List.setIfInBounds_toArray, List.set_cons_zero, List.set_cons_succ, i64_w, i32_w]
            rfl
          refine pure_ (i := 7) (N := some 42) (v := ?_) (a' := ?_) #[true, true, true, true, true, false, true, true, false, false, false, false, false, false, false] rfl rfl (by kernel_rfl) (fun _ _ _ h => h) (Or.inl ⟨by rfl, ?_⟩) ?_ ?_
          rotate_left
          · intro w'
            go_simp
            with_reducible rfl
          rotate_left
          · simp only [Act.put, List.setIfInBounds_toArray, List.set_cons_zero, List.set_cons_succ, i64_w, i32_w]
            rfl
          refine pure_ (i := 8) (N := some 43) (v := ?_) (a' := ?_) #[true, true, true, true, true, false, true, true, true, false, false, false, false, false, false] rfl rfl (by kernel_rfl) (fun _ _ _ h => h) (Or.inl ⟨by rfl, ?_⟩) ?_ ?_
          rotate_left
          · intro w'
            go_simp
            with_reducible rfl
          rotate_left
          · simp only [Act.put, List.setIfInBounds_toArray, List.set_cons_zero, List.set_cons_succ, i64_w, i32_w]
            rfl
          refine pure_ (i := 9) (N := some 44) (v := ?_) (a' := ?_) #[true, true, true, true, true, false, true, true, true, true, false, false, false, false, false] rfl rfl (by kernel_rfl) (fun _ _ _ h => h) (Or.inl ⟨by rfl, ?_⟩) ?_ ?_
          rotate_left
          · intro w'
            go_simp
            with_reducible rfl
          rotate_left
          · simp only [Act.put, List.setIfInBounds_toArray, List.set_cons_zero, List.set_cons_succ, i64_w, i32_w]
            rfl
          refine take_ (i := 5) (N := some 40) (v := ?_) (a' := ?_) #[true, true, true, true, true, true, true, true, true, true, false, false, false, false, false] rfl rfl (by kernel_rfl) (fun _ _ _ h => h) (Or.inl ⟨by rfl, ?_⟩) hHeld ?_ ?_
          rotate_left
          · rintro w' ⟨s0, s1⟩
            go_simp
            with_reducible rfl
          rotate_left
          · simp only [Act.put, List.setIfInBounds_toArray, List.set_cons_zero, List.set_cons_succ, i64_w, i32_w]
            rfl
          refine take_ (i := 10) (N := some 45) (v := ?_) (a' := ?_) #[true, true, true, true, true, true, true, true, true, true, true, false, false, false, false] rfl rfl (by kernel_rfl) (fun _ _ _ h => h) (Or.inl ⟨by rfl, ?_⟩) hHeld ?_ ?_
          rotate_left
          · rintro w' ⟨s0, s1⟩
            go_simp
            with_reducible rfl
          rotate_left
          · simp only [Act.put, List.setIfInBounds_toArray, List.set_cons_zero, List.set_cons_succ, i64_w, i32_w]
            rfl
          refine pure_ (i := 11) (N := some 46) (v := ?_) (a' := ?_) #[true, true, true, true, true, true, true, true, true, true, true, true, false, false, false] rfl rfl (by kernel_rfl) (fun _ _ _ h => h) (Or.inl ⟨by rfl, ?_⟩) ?_ ?_
          rotate_left
          · intro w'
            go_simp
            with_reducible rfl
          rotate_left
          · simp only [Act.put, List.setIfInBounds_toArray, List.set_cons_zero, List.set_cons_succ, i64_w, i32_w]
            rfl
          refine one_ (i := 12) (N := some 47) #[true, true, true, true, true, true, true, true, true, true, true, true, true, false, false] rfl rfl (by kernel_rfl) (by decide) (fun K hK => ?_)
          refine value_ (w1 := ?_) (v := ?_) (by rfl) rfl ?_ ?_
          rotate_left 2
          · go_simp
            constructor
            · rfl
            · rfl
          refine hK.out _ _ ⟨(HH.out _ (below_alloc HBW.out.drew _)).1, (HH.out _ (below_alloc HBW.out.drew _)).2⟩ (fun hHeld => ?_)
          clear hK K
          refine norm_ (a' := ?_) ?_ ?_
          rotate_left
          · show Act.put _ (some 47) _ = _
            simp only [Act.put, List.setIfInBounds_toArray, List.set_cons_zero, List.set_cons_succ, i64_w, i32_w]
            rfl
          refine one_ (i := 13) (N := some 48) #[true, true, true, true, true, true, true, true, true, true, true, true, true, true, false] rfl rfl (by kernel_rfl) (by decide) (fun K hK => ?_)
          refine Kd.R_append_step k71 (w0 := w) lo (by rfl) (.tmp 35) (.tmp 47) 27 71 (.agg #[(.string ⟨#[]⟩), (.string ⟨#[]⟩), (.int .i64 0), (.int .i64 0)]) 48 rfl Try.underlying27 info71 rfl (by decide) (by omega) (.slice Ao out.length co) out (⟨x.f0, x.f1, 0, 0⟩ : S71) _ (fun _ => True) (fun _ => False) rfl rfl (k71_mkM _ _ _ _) (fun _ h => h.elim) (fun _ _ => trivial) (Kd.R_drew HO1.out) (HBl1.out).drew HLo1.out (by have := HSZ.out; omega) ?_
          intro v1 w3 ho1 hb1 hg1 hat1
          have HO3 := Aside0.mk ho1
          have HB3 := Aside0.mk hb1
          clear hat1 hg1 ho1 hb1
          refine hK.out _ _ ⟨(HH.out w3 (HB0.out.trans (HB3.out.mono HL.out.1))).1, (HH.out w3 (HB0.out.trans (HB3.out.mono HL.out.1))).2⟩ (fun hHeld => ?_)
          clear hK K
          refine norm_ (a' := ?_) ?_ ?_
          rotate_left
          · show Act.put _ (some 48) _ = _
            simp only [Act.put, List.setIfInBounds_toArray, List.set_cons_zero, List.set_cons_succ, i64_w, i32_w]
            rfl
          refine pure_ (i := 14) (N := some 0) (v := ?_) (a' := ?_) #[true, true, true, true, true, true, true, true, true, true, true, true, true, true, true] rfl rfl (by kernel_rfl) (fun _ _ _ h => h) (Or.inl ⟨by rfl, ?_⟩) ?_ ?_
          rotate_left
          · intro w'
            go_simp
            with_reducible rfl
          rotate_left
          · simp only [Act.put, List.setIfInBounds_toArray, List.set_cons_zero, List.set_cons_succ, i64_w, i32_w]
            rfl
          refine done_ (by kernel_rfl) ?_
          have hmn : m < l.length := HM.out
          obtain ⟨out1, he1⟩ : ∃ o, o = out ++ [(⟨x.f0, x.f1, 0, 0⟩ : S71)] := ⟨_, rfl⟩
          rw [← he1] at HO3
          have ho1 : out1.length = out.length + 1 := by rw [he1]; simp
          have HE1 := Aside0.mk (⟨he1, ho1⟩ : _ ∧ _)
          clear he1
          obtain ⟨i0, hinfo, _, hsz0, _⟩ := info_parts info80
          have hcut1 := cut_to (P := Try.prog) 66 80 .i64 Try.underlying66 hinfo (some ad) l.length c1 (m : Int) (by omega) (by omega) HC1.out
          have hcut2 := cut_from (P := Try.prog) 66 80 .i64 Try.underlying66 hinfo 2 hsz0 (some ad) l.length c1 ((m : Int) + 1) (by omega) (by omega)
          have etn : ((m : Int) + 1).toNat = m + 1 := by omega
          rw [Int.toNat_natCast] at hcut1
          rw [etn] at hcut2
          have hC1 := Kd.C_take (m := m) HC.out (by omega)
          have hC2 := Kd.C_drop (m := m + 1) HC.out (by omega) HC1.out
          have hl1 : (l.take m).length = m := by rw [List.length_take]; omega
          have hl2 : (l.drop (m + 1)).length = l.length - (m + 1) := List.length_drop
          have HL3 := Aside0.mk (show lo ≤ w3.heap.size from Nat.le_trans HL.out.2.1 HB3.out.size)
          have h12 := HIH.out (l.take m) (some ad) c1 v1 out1 w0 w3 lo (by have := HL.out; omega) hC1 (by have := HC1.out; omega) (HB0.out.trans (HB3.out.mono HL.out.1)) HL.out.1 HL3.out HO3.out (by rw [hl1]; have := HSZ.out; omega) (fun i hi => by
            have h9 := HKS.out i (by omega)
            unfold rd_T80 at h9 ⊢
            rw [Int.toNat_natCast] at h9 ⊢
            rw [List.getD_eq_getElem?_getD, List.getElem?_take, if_pos (by omega)]
            rw [List.getD_eq_getElem?_getD] at h9
            exact h9)
          rw [hl1] at h12
          obtain ⟨ra, hra⟩ : ∃ ra : Int, ra = rt out1.length ((l.take m).map kv) := ⟨_, rfl⟩
          obtain ⟨EL, hEL⟩ : ∃ EL, EL = enc n out1.length ((l.take m).map kv) := ⟨_, rfl⟩
          rw [← hra, ← hEL] at h12
          have henl : EL.length = m := by
            rw [hEL, enc_len n _ _ (by rw [List.length_map]; have := HL.out; omega), List.length_map, hl1]
          have HRA := Aside0.mk (⟨hra, hEL, henl⟩ : _ ∧ _ ∧ _)
          have H12 := Aside0.mk h12
          clear hra hEL henl
          obtain ⟨A2, hA2⟩ : ∃ A2 : Option Addr, A2 = (if c1 = m + 1 then some ad else Option.map (fun a => a.add ((m + 1) * 2)) (some ad)) := ⟨_, rfl⟩
          have hC2' : Kd.C k80 w0 A2 (l.drop (m + 1)).length (l.drop (m + 1)) := by rw [hA2]; exact hC2
          have hcut2' : ∀ W : World, (Instr.slice 66 (.slice (some ad) l.length c1) (some (.int .i64 ((m : Int) + 1))) none none).run Try.prog W = .ok (.slice A2 (l.length - (m + 1)) (c1 - (m + 1))) W := by rw [hA2]; exact hcut2
          have HCT := Aside0.mk (⟨hcut2', hC2', hl1, hl2⟩ : _ ∧ _ ∧ _ ∧ _)
          clear ho1 h12 hC1 hC2 hinfo hsz0 etn hcut2 hl1 hl2 hA2 hC2' hcut2'
          go_upto_region 13 with (go_at_call 79; go_loud ((with_reducible refine H12.out.mono ?_); rintro e w4 ⟨v4, rfl, ho, hb⟩; have HO4 := Aside0.mk ho; have HB4 := Aside0.mk hb; clear ho hb))
          obtain ⟨hcut2, hC2, hl1, hl2⟩ := HCT.out
          have henl := HRA.out.2.2
          have HL4 := Aside0.mk (show lo ≤ w4.heap.size from Nat.le_trans HL3.out HB4.out.size)
          have HBL4 := Aside0.mk (HB3.out.trans HB4.out)
          have h13 := HIH.out (l.drop (m + 1)) A2 (c1 - (m + 1)) v4 _ w0 w4 lo (by have := HL.out; omega) hC2 (by have := HC1.out; omega) (HB0.out.trans (HBL4.out.mono HL.out.1)) HL.out.1 HL4.out HO4.out (by rw [List.length_append, henl, hl2]; have := HSZ.out; have := HE1.out.2; omega) (fun i hi => by
            have h9 := HKS.out (m + 1 + i) (by omega)
            unfold rd_T80 at h9 ⊢
            rw [Int.toNat_natCast] at h9 ⊢
            rw [List.getD_eq_getElem?_getD, List.getElem?_drop]
            rw [List.getD_eq_getElem?_getD] at h9
            exact h9)
          rw [hl2] at h13
          obtain ⟨rb, hrb⟩ : ∃ rb : Int, rb = rt (out1 ++ EL).length ((l.drop (m + 1)).map kv) := ⟨_, rfl⟩
          obtain ⟨ys, hys⟩ : ∃ ys, ys = out1 ++ EL ++ enc n (out1 ++ EL).length ((l.drop (m + 1)).map kv) := ⟨_, rfl⟩
          rw [← hrb, ← hys] at h13
          have HRB := Aside0.mk (⟨hrb, hys⟩ : _ ∧ _)
          have H13 := Aside0.mk h13
          have HEN := Aside0.mk (⟨hl1, hl2⟩ : _ ∧ _)
          clear hrb hys
          clear h13 hC2 henl hl1 hl2
          go_upto_region 14 with (go_at_call 79; go_loud ((with_reducible refine H13.out.mono ?_); rintro e w5 ⟨v5, rfl, ho, hb⟩; have HO5 := Aside0.mk ho; have HB5 := Aside0.mk hb; clear ho hb))
          have hyl : out.length < ys.length := by rw [HRB.out.2, HE1.out.1]; simp
          obtain ⟨g, cap, ev5, gb, gl, cells, HG⟩ := Kd.R_form HO5.out (by omega)
          subst ev5
          have HGB := Aside0.mk gb
          obtain ⟨hx2, hf2, hR2⟩ := put2 HO5.out out.length hyl ra
          obtain ⟨hx3, hf3, hR3⟩ := put3 hR2 out.length hyl rb
          have HR3 := Aside0.mk hR3
          have hyl2 : (out.length : Int) < (ys.length : Int) := by omega
          have hob : (out.length : Int) ≤ 1048576 := by have := HSZ.out; omega
          clear hR2 hR3 HG gl gb cells hyl
          go_wp2
          go_ret2
          have ert : rt out.length (l.map kv) = (out.length : Int) := rt_pos _ _ (by rw [List.length_map]; have := HL.out.2.2.2; omega)
          refine ⟨.slice (some ⟨g, 0, none⟩) ys.length cap, ?_, ?_, ?_⟩
          · rw [ert]
            rfl
          · have h9 : Kd.R k71 71 _ lo (fun _ => True) _ (put23 ys out.length ra rb) := HR3.out
            rw [final_list x.f0 x.f1 ra rb out out1 ys EL n m (l.map kv) HE1.out.1 HMT.out HX.out (by rw [List.length_map]; have := HL.out.2.2.2; omega) (by rw [HRA.out.1, List.map_take, HE1.out.2]) (by rw [HRA.out.2.1, List.map_take, HE1.out.2]) HRA.out.2.2 (by rw [HRB.out.1, List.map_drop, List.length_append, HRA.out.2.2, HE1.out.2]) (by rw [HRB.out.2, List.map_drop, List.length_append, HRA.out.2.2, HE1.out.2])] at h9
            exact h9
          · exact ((HB3.out.trans (HB4.out.trans HB5.out)).setCell HGB.out _).setCell HGB.out _
end Go.Proofs.Ytjknkeipginpcaa.BuI
end

section
/- loop.example/g00274/spec.l7Build, by hand. No conditions. -/
namespace Go.Proofs.Ytjknkeipginpcaa.BuS
set_option linter.unusedVariables false
set_option linter.unusedSimpArgs false
open Go.RowKit Go.Proofs.Ytjknkeipginpcaa.PQ Go.Proofs.YtjknkeipginpcaaW.PrintWords Go.Proofs.YtjknkeipginpcaaW.PrintLast Go.Proofs.YtjknkeipginpcaaW.PrintMore Go.Proofs.Ytjknkeipginpcaa.Pre Go.Proofs.Ytjknkeipginpcaa.Tr

def kv (x : S74) : KV := (x.f0, x.f1)
theorem kv_key (l : List S74) (i : Nat) (hi : i < l.length) : ((l.map kv).getD i zKV).1 = (rd_T74 l (i : Int)).f0 ∧ ((l.map kv).getD i zKV).2 = (rd_T74 l (i : Int)).f1 := by
  unfold rd_T74
  simp [hi, kv]
theorem rdE_nat (l : List S74) (i : Nat) (w : World) (A : Option Addr) (h : Kd.C k74 w A l.length l) (hi : i < l.length) : ∃ ad, A = some ad ∧ w.cell? (ad.add (i * 2)) = some (.string (rd_T74 l (i : Int)).f0) ∧ w.cell? ⟨(ad.add (i * 2)).block, (ad.add (i * 2)).off + 1, none⟩ = some (.string (rd_T74 l (i : Int)).f1) := by
  obtain ⟨ad, e, h1, h2⟩ := at_T74 h (i : Int) (by omega) (by omega)
  rw [Int.toNat_natCast] at h1 h2
  exact ⟨ad, e, h1, h2⟩

set_option maxHeartbeats 4000000 in
set_option maxRecDepth 100000 in
theorem calls : ∀ (n : Nat) (l : List S74) (A1 : Option Addr) (c1 : Nat) (v : Value) (out : List S71) (w0 w : World) (lo : Nat), l.length ≤ n → Kd.C k74 w0 A1 l.length l → l.length ≤ c1 → Below w0.heap.size w0 w → w0.heap.size ≤ lo → lo ≤ w.heap.size → Kd.R k71 71 w lo (fun _ => True) v out → out.length + l.length ≤ 1048576 → (∀ i : Nat, i < l.length → (rd_T74 l (i : Int)).f0.size ≤ 1048576) →
    Calls Try.prog 78 #[.slice A1 l.length c1, v] w fun e w' => ∃ v' : Value, e = .returned (.tuple #[.int .i64 (rt out.length (l.map kv)), v']) ∧ Kd.R k71 71 w' lo (fun _ => True) v' (out ++ enc n out.length (l.map kv)) ∧ Below lo w w' := by
  intro n
  induction n with
  | zero =>
    intro l A1 c1 v out w0 w lo hn hC hc1 hB0 hlo hlow hR hsz hks
    obtain rfl : l = [] := List.eq_nil_of_length_eq_zero (by omega)
    have HR := Aside0.mk hR
    clear hR hC hB0
    go_enter Try.func78, Try.ntmps78
    go_wp2
    go_ret2
    exact ⟨_, rfl, by rw [show enc 0 out.length (([] : List S74).map kv) = [] from rfl, List.append_nil]; exact HR.out, Below.refl _ _⟩
  | succ n ih =>
    intro l A1 c1 v out w0 w lo hn hC hc1 hB0 hlo hlow hR hsz hks
    obtain ⟨Ao, co, ev, hco, _⟩ := Kd.R_reads hR
    subst ev
    have HR := Aside0.mk hR
    by_cases hz : l.length = 0
    · obtain rfl : l = [] := List.eq_nil_of_length_eq_zero hz
      clear hR hC hB0 ih
      go_enter Try.func78, Try.ntmps78
      go_wp2
      go_ret2
      exact ⟨_, rfl, by rw [show enc (n + 1) out.length (([] : List S74).map kv) = [] from rfl, List.append_nil]; exact HR.out, Below.refl _ _⟩
    · have HC := Aside0.mk hC
      have HC1 := Aside0.mk hc1
      have HB0 := Aside0.mk hB0
      have HL := Aside0.mk (⟨hlo, hlow, hn, by omega⟩ : w0.heap.size ≤ lo ∧ lo ≤ w.heap.size ∧ l.length ≤ n + 1 ∧ 0 < l.length)
      have HSZ := Aside0.mk hsz
      have HKS := Aside0.mk hks
      have HIH := Aside0.mk ih
      have hz2 : ((l.length : Int) == 0) = false := by rw [beq_eq_false_iff_ne]; omega
      have hz3 : ¬ (l.length : Int) = 0 := by omega
      have hlb : (l.length : Int) ≤ 1048576 := by omega
      clear hR hC hc1 hB0 hlo hlow hn hsz hks ih hz
      go_enter Try.func78, Try.ntmps78
      go_wp2
      go_loopg [6, 17] l.length (fun kq v6 v17 w' => ∃ i : Nat, v6 = .int .i64 ((topF (l.map kv) i : Nat) : Int) ∧ v17 = .int .i64 (i : Int) ∧ i ≤ l.length ∧ kq = l.length - i ∧ ∃ q, w' = w.drewN q)
      case atStart => exact ⟨0, rfl, rfl, Nat.zero_le _, rfl, 0, rfl⟩
      case round =>
        obtain ⟨i, rfl, rfl, hi, hk, q, hw⟩ := hrel
        have HW := Aside0.mk hw
        have htl := topF_lt (l.map kv) (by rw [List.length_map]; exact HL.out.2.2.2) i (by rw [List.length_map]; exact hi)
        rw [List.length_map] at htl
        have HCw := Aside0.mk (Kd.C_below HC.out HB0.out)
        by_cases hlt : i < l.length
        · obtain ⟨tp, htp⟩ : ∃ tp, tp = topF (l.map kv) i := ⟨_, rfl⟩
          rw [← htp] at htl ⊢
          obtain ⟨ad, e, h1, _⟩ := rdE_nat l i w A1 HCw.out hlt
          subst e
          obtain ⟨ad', e, h2, _⟩ := rdE_nat l tp w (some ad) HCw.out htl
          cases e
          have h1' : wr.cell? (ad.add (i * 2)) = some (.string (rd_T74 l (i : Int)).f0) := by rw [hw]; exact h1
          have h2' : wr.cell? (ad.add (tp * 2)) = some (.string (rd_T74 l (tp : Int)).f0) := by rw [hw]; exact h2
          clear hw
          have hstep : topF (l.map kv) (i + 1) = if hvy (rd_T74 l (i : Int)).f0 (rd_T74 l (tp : Int)).f0 = true then i else tp := by
            show (if hvy ((l.map kv).getD i zKV).1 ((l.map kv).getD (topF (l.map kv) i) zKV).1 = true then i else topF (l.map kv) i) = _
            rw [← htp, (kv_key l i hlt).1, (kv_key l tp htl).1]
          have HST := Aside0.mk hstep
          have hsi := HKS.out i hlt
          have hst := HKS.out tp htl
          have HV := fun W => heavS (rd_T74 l (i : Int)).f0 (rd_T74 l (tp : Int)).f0 hsi hst W
          generalize (rd_T74 l (i : Int)).f0 = ka at *
          generalize (rd_T74 l (tp : Int)).f0 = kb at *
          have hi2 : (i : Int) < (l.length : Int) := by omega
          have ht2 : (tp : Int) < (l.length : Int) := by omega
          clear h1 h2 hstep hsi hst htp
          cases hb : hvy ka kb with
          | true =>
            rw [hb] at HV
            have HHV := Aside0.mk HV
            clear HV
            go_wp2
            go_quiet ((go_at_call 88; exact Calls.quiet_of (HHV.out _)))
            go_wp2
            go_roundg (l.length - (i + 1))
            case measure => omega
            case rel => exact ⟨i + 1, by rw [HST.out, if_pos hb], by go_num, by omega, rfl, q + nq, by rw [HW.out, World.drewN_drewN]⟩
          | false =>
            rw [hb] at HV
            have HHV := Aside0.mk HV
            clear HV
            go_wp2
            go_quiet ((go_at_call 88; exact Calls.quiet_of (HHV.out _)))
            go_wp2
            go_roundg (l.length - (i + 1))
            case measure => omega
            case rel => exact ⟨i + 1, by rw [HST.out, if_neg (by rw [hb]; decide)], by go_num, by omega, rfl, q + nq, by rw [HW.out, World.drewN_drewN]⟩
        · obtain rfl : i = l.length := by omega
          obtain ⟨m, hm⟩ : ∃ m, m = topF (l.map kv) l.length := ⟨_, rfl⟩
          rw [← hm] at htl ⊢
          have HMT := Aside0.mk (show m = top (l.map kv) by rw [hm]; unfold top; rw [List.length_map])
          obtain ⟨x, hx⟩ : ∃ x, x = rd_T74 l (m : Int) := ⟨_, rfl⟩
          obtain ⟨ad, e, h1, h2⟩ := rdE_nat l m w0 A1 HC.out htl
          subst e
          rw [← hx] at h1 h2
          have HX := Aside0.mk (show ((l.map kv).getD m zKV).1 = x.f0 ∧ ((l.map kv).getD m zKV).2 = x.f1 by rw [hx]; exact kv_key l m htl)
          have HH := Aside0.mk (fun (W : World) (hb : Below w0.heap.size w0 W) => (⟨(hb.cell (World.block_lt_of_cell? w0 _ h1)).trans h1, (hb.cell (World.block_lt_of_cell? w0 _ h2)).trans h2⟩ : W.cell? (ad.add (m * 2)) = some (.string x.f0) ∧ W.cell? ⟨(ad.add (m * 2)).block, (ad.add (m * 2)).off + 1, none⟩ = some (.string x.f1)))
          have HBW := Aside0.mk (show Below w0.heap.size w0 wr by rw [hw]; exact pw_below_drewN HB0.out q)
          have HBl1 := Aside0.mk (show Below lo w wr by rw [hw]; exact pw_below_drewN (Below.refl _ _) q)
          have HO1 := Aside0.mk (show Kd.R k71 71 wr lo (fun _ => True) (.slice Ao out.length co) out by rw [hw]; exact Kd.R_drewN HR.out q)
          have HLo1 := Aside0.mk (show lo ≤ wr.heap.size by rw [hw]; exact HL.out.2.1)
          have hml : (m : Int) < (l.length : Int) := by omega
          have HM := Aside0.mk htl
          clear hm hx h1 h2 hw HW htl
          go_upto_region 11 with (fail)
          refine start_ (n := 15) (S := fun w' => w'.cell? (ad.add (m * 2)) = some (.string x.f0) ∧ w'.cell? ⟨(ad.add (m * 2)).block, (ad.add (m * 2)).off + 1, none⟩ = some (.string x.f1)) (ds := []) #[false, false, false, false, false, false, false, false, false, false, false, false, false, false, false] (by kernel_rfl) rfl rfl ⟨(HH.out wr.drew HBW.out.drew).1, (HH.out wr.drew HBW.out.drew).2⟩ (fun hHeld => ?_)
          refine pure_ (i := 0) (N := some 35) (v := ?_) (a' := ?_) #[true, false, false, false, false, false, false, false, false, false, false, false, false, false, false] rfl rfl (by kernel_rfl) (fun _ _ _ h => h) (Or.inl ⟨by rfl, ?_⟩) ?_ ?_
          rotate_left
          · intro w'
            go_simp
            with_reducible rfl
          rotate_left
          · simp only [Act.put, List.setIfInBounds_toArray, List.set_cons_zero, List.set_cons_succ, i64_w, i32_w]
            rfl
          refine pure_ (i := 1) (N := some 36) (v := ?_) (a' := ?_) #[true, true, false, false, false, false, false, false, false, false, false, false, false, false, false] rfl rfl (by kernel_rfl) (fun _ _ _ h => h) (Or.inl ⟨by rfl, ?_⟩) ?_ ?_
          rotate_left
          · intro w'
            go_simp
            with_reducible rfl
          rotate_left
          · simp only [Act.put, List.setIfInBounds_toArray, List.set_cons_zero, List.set_cons_succ, i64_w, i32_w]
            rfl
          refine pure_ (i := 2) (N := some 37) (v := ?_) (a' := ?_) #[true, true, true, false, false, false, false, false, false, false, false, false, false, false, false] rfl rfl (by kernel_rfl) (fun _ _ _ h => h) (Or.inl ⟨by rfl, ?_⟩) ?_ ?_
          rotate_left
          · intro w'
            go_simp
            with_reducible rfl
          rotate_left
          · simp only [Act.put, List.setIfInBounds_toArray, List.set_cons_zero, List.set_cons_succ, i64_w, i32_w]
            rfl
          refine pure_ (i := 3) (N := some 38) (v := ?_) (a' := ?_) #[true, true, true, true, false, false, false, false, false, false, false, false, false, false, false] rfl rfl (by kernel_rfl) (fun _ _ _ h => h) (Or.inl ⟨by rfl, ?_⟩) ?_ ?_
          rotate_left
          · intro w'
            go_simp
            with_reducible rfl
          rotate_left
          · simp only [Act.put, List.setIfInBounds_toArray, List.set_cons_zero, List.set_cons_succ, i64_w, i32_w]
            rfl
          refine pure_ (i := 4) (N := some 39) (v := ?_) (a' := ?_) #[true, true, true, true, true, false, false, false, false, false, false, false, false, false, false] rfl rfl (by kernel_rfl) (fun _ _ _ h => h) (Or.inl ⟨by rfl, ?_⟩) ?_ ?_
          rotate_left
          · intro w'
            go_simp
            with_reducible rfl
          rotate_left
          · simp only [Act.put, List.setIfInBounds_toArray, List.set_cons_zero, List.set_cons_succ, i64_w, i32_w]
            rfl
          refine pure_ (i := 6) (N := some 41) (v := ?_) (a' := ?_) #[true, true, true, true, true, false, true, false, false, false, false, false, false, false, false] rfl rfl (by kernel_rfl) (fun _ _ _ h => h) (Or.inl ⟨by rfl, ?_⟩) ?_ ?_
          rotate_left
          · intro w'
            go_simp
            with_reducible rfl
          rotate_left
          · simp only [Act.put, List.setIfInBounds_toArray, List.set_cons_zero, List.set_cons_succ, i64_w, i32_w]
            rfl
          refine pure_ (i := 7) (N := some 42) (v := ?_) (a' := ?_) #[true, true, true, true, true, false, true, true, false, false, false, false, false, false, false] rfl rfl (by kernel_rfl) (fun _ _ _ h => h) (Or.inl ⟨by rfl, ?_⟩) ?_ ?_
          rotate_left
          · intro w'
            go_simp
            with_reducible rfl
          rotate_left
          · simp only [Act.put, List.setIfInBounds_toArray, List.set_cons_zero, List.set_cons_succ, i64_w, i32_w]
            rfl
          refine pure_ (i := 8) (N := some 43) (v := ?_) (a' := ?_) #[true, true, true, true, true, false, true, true, true, false, false, false, false, false, false] rfl rfl (by kernel_rfl) (fun _ _ _ h => h) (Or.inl ⟨by rfl, ?_⟩) ?_ ?_
          rotate_left
          · intro w'
            go_simp
            with_reducible rfl
          rotate_left
          · simp only [Act.put, List.setIfInBounds_toArray, List.set_cons_zero, List.set_cons_succ, i64_w, i32_w]
            rfl
          refine pure_ (i := 9) (N := some 44) (v := ?_) (a' := ?_) #[true, true, true, true, true, false, true, true, true, true, false, false, false, false, false] rfl rfl (by kernel_rfl) (fun _ _ _ h => h) (Or.inl ⟨by rfl, ?_⟩) ?_ ?_
          rotate_left
          · intro w'
            go_simp
            with_reducible rfl
          rotate_left
          · simp only [Act.put, List.setIfInBounds_toArray, List.set_cons_zero, List.set_cons_succ, i64_w, i32_w]
            rfl
          refine take_ (i := 5) (N := some 40) (v := ?_) (a' := ?_) #[true, true, true, true, true, true, true, true, true, true, false, false, false, false, false] rfl rfl (by kernel_rfl) (fun _ _ _ h => h) (Or.inl ⟨by rfl, ?_⟩) hHeld ?_ ?_
          rotate_left
          · rintro w' ⟨s0, s1⟩
            go_simp
            with_reducible rfl
          rotate_left
          · simp only [Act.put, List.setIfInBounds_toArray, List.set_cons_zero, List.set_cons_succ, i64_w, i32_w]
            rfl
          refine take_ (i := 10) (N := some 45) (v := ?_) (a' := ?_) #[true, true, true, true, true, true, true, true, true, true, true, false, false, false, false] rfl rfl (by kernel_rfl) (fun _ _ _ h => h) (Or.inl ⟨by rfl, ?_⟩) hHeld ?_ ?_
          rotate_left
          · rintro w' ⟨s0, s1⟩
            go_simp
            with_reducible rfl
          rotate_left
          · simp only [Act.put, List.setIfInBounds_toArray, List.set_cons_zero, List.set_cons_succ, i64_w, i32_w]
            rfl
          refine pure_ (i := 11) (N := some 46) (v := ?_) (a' := ?_) #[true, true, true, true, true, true, true, true, true, true, true, true, false, false, false] rfl rfl (by kernel_rfl) (fun _ _ _ h => h) (Or.inl ⟨by rfl, ?_⟩) ?_ ?_
          rotate_left
          · intro w'
            go_simp
            with_reducible rfl
          rotate_left
          · simp only [Act.put, List.setIfInBounds_toArray, List.set_cons_zero, List.set_cons_succ, i64_w, i32_w]
            rfl
          refine one_ (i := 12) (N := some 47) #[true, true, true, true, true, true, true, true, true, true, true, true, true, false, false] rfl rfl (by kernel_rfl) (by decide) (fun K hK => ?_)
          refine value_ (w1 := ?_) (v := ?_) (by rfl) rfl ?_ ?_
          rotate_left 2
          · go_simp
            constructor
            · rfl
            · rfl
          refine hK.out _ _ ⟨(HH.out _ (below_alloc HBW.out.drew _)).1, (HH.out _ (below_alloc HBW.out.drew _)).2⟩ (fun hHeld => ?_)
          clear hK K
          refine norm_ (a' := ?_) ?_ ?_
          rotate_left
          · show Act.put _ (some 47) _ = _
            simp only [Act.put, List.setIfInBounds_toArray, List.set_cons_zero, List.set_cons_succ, i64_w, i32_w]
            rfl
          refine one_ (i := 13) (N := some 48) #[true, true, true, true, true, true, true, true, true, true, true, true, true, true, false] rfl rfl (by kernel_rfl) (by decide) (fun K hK => ?_)
          refine Kd.R_append_step k71 (w0 := w) lo (by rfl) (.tmp 35) (.tmp 47) 27 71 (.agg #[(.string ⟨#[]⟩), (.string ⟨#[]⟩), (.int .i64 0), (.int .i64 0)]) 48 rfl Try.underlying27 info71 rfl (by decide) (by omega) (.slice Ao out.length co) out (⟨x.f0, x.f1, 0, 0⟩ : S71) _ (fun _ => True) (fun _ => False) rfl rfl (k71_mkM _ _ _ _) (fun _ h => h.elim) (fun _ _ => trivial) (Kd.R_drew HO1.out) (HBl1.out).drew HLo1.out (by have := HSZ.out; omega) ?_
          intro v1 w3 ho1 hb1 hg1 hat1
          have HO3 := Aside0.mk ho1
          have HB3 := Aside0.mk hb1
          clear hat1 hg1 ho1 hb1
          refine hK.out _ _ ⟨(HH.out w3 (HB0.out.trans (HB3.out.mono HL.out.1))).1, (HH.out w3 (HB0.out.trans (HB3.out.mono HL.out.1))).2⟩ (fun hHeld => ?_)
          clear hK K
          refine norm_ (a' := ?_) ?_ ?_
          rotate_left
          · show Act.put _ (some 48) _ = _
            simp only [Act.put, List.setIfInBounds_toArray, List.set_cons_zero, List.set_cons_succ, i64_w, i32_w]
            rfl
          refine pure_ (i := 14) (N := some 1) (v := ?_) (a' := ?_) #[true, true, true, true, true, true, true, true, true, true, true, true, true, true, true] rfl rfl (by kernel_rfl) (fun _ _ _ h => h) (Or.inl ⟨by rfl, ?_⟩) ?_ ?_
          rotate_left
          · intro w'
            go_simp
            with_reducible rfl
          rotate_left
          · simp only [Act.put, List.setIfInBounds_toArray, List.set_cons_zero, List.set_cons_succ, i64_w, i32_w]
            rfl
          refine done_ (by kernel_rfl) ?_
          have hmn : m < l.length := HM.out
          obtain ⟨out1, he1⟩ : ∃ o, o = out ++ [(⟨x.f0, x.f1, 0, 0⟩ : S71)] := ⟨_, rfl⟩
          rw [← he1] at HO3
          have ho1 : out1.length = out.length + 1 := by rw [he1]; simp
          have HE1 := Aside0.mk (⟨he1, ho1⟩ : _ ∧ _)
          clear he1
          obtain ⟨i0, hinfo, _, hsz0, _⟩ := info_parts info74
          have hcut1 := cut_to (P := Try.prog) 62 74 .i64 Try.underlying62 hinfo (some ad) l.length c1 (m : Int) (by omega) (by omega) HC1.out
          have hcut2 := cut_from (P := Try.prog) 62 74 .i64 Try.underlying62 hinfo 2 hsz0 (some ad) l.length c1 ((m : Int) + 1) (by omega) (by omega)
          have etn : ((m : Int) + 1).toNat = m + 1 := by omega
          rw [Int.toNat_natCast] at hcut1
          rw [etn] at hcut2
          have hC1 := Kd.C_take (m := m) HC.out (by omega)
          have hC2 := Kd.C_drop (m := m + 1) HC.out (by omega) HC1.out
          have hl1 : (l.take m).length = m := by rw [List.length_take]; omega
          have hl2 : (l.drop (m + 1)).length = l.length - (m + 1) := List.length_drop
          have HL3 := Aside0.mk (show lo ≤ w3.heap.size from Nat.le_trans HL.out.2.1 HB3.out.size)
          have h12 := HIH.out (l.take m) (some ad) c1 v1 out1 w0 w3 lo (by have := HL.out; omega) hC1 (by have := HC1.out; omega) (HB0.out.trans (HB3.out.mono HL.out.1)) HL.out.1 HL3.out HO3.out (by rw [hl1]; have := HSZ.out; omega) (fun i hi => by
            have h9 := HKS.out i (by omega)
            unfold rd_T74 at h9 ⊢
            rw [Int.toNat_natCast] at h9 ⊢
            rw [List.getD_eq_getElem?_getD, List.getElem?_take, if_pos (by omega)]
            rw [List.getD_eq_getElem?_getD] at h9
            exact h9)
          rw [hl1] at h12
          obtain ⟨ra, hra⟩ : ∃ ra : Int, ra = rt out1.length ((l.take m).map kv) := ⟨_, rfl⟩
          obtain ⟨EL, hEL⟩ : ∃ EL, EL = enc n out1.length ((l.take m).map kv) := ⟨_, rfl⟩
          rw [← hra, ← hEL] at h12
          have henl : EL.length = m := by
            rw [hEL, enc_len n _ _ (by rw [List.length_map]; have := HL.out; omega), List.length_map, hl1]
          have HRA := Aside0.mk (⟨hra, hEL, henl⟩ : _ ∧ _ ∧ _)
          have H12 := Aside0.mk h12
          clear hra hEL henl
          obtain ⟨A2, hA2⟩ : ∃ A2 : Option Addr, A2 = (if c1 = m + 1 then some ad else Option.map (fun a => a.add ((m + 1) * 2)) (some ad)) := ⟨_, rfl⟩
          have hC2' : Kd.C k74 w0 A2 (l.drop (m + 1)).length (l.drop (m + 1)) := by rw [hA2]; exact hC2
          have hcut2' : ∀ W : World, (Instr.slice 62 (.slice (some ad) l.length c1) (some (.int .i64 ((m : Int) + 1))) none none).run Try.prog W = .ok (.slice A2 (l.length - (m + 1)) (c1 - (m + 1))) W := by rw [hA2]; exact hcut2
          have HCT := Aside0.mk (⟨hcut2', hC2', hl1, hl2⟩ : _ ∧ _ ∧ _ ∧ _)
          clear ho1 h12 hC1 hC2 hinfo hsz0 etn hcut2 hl1 hl2 hA2 hC2' hcut2'
          go_upto_region 13 with (go_at_call 78; go_loud ((with_reducible refine H12.out.mono ?_); rintro e w4 ⟨v4, rfl, ho, hb⟩; have HO4 := Aside0.mk ho; have HB4 := Aside0.mk hb; clear ho hb))
          obtain ⟨hcut2, hC2, hl1, hl2⟩ := HCT.out
          have henl := HRA.out.2.2
          have HL4 := Aside0.mk (show lo ≤ w4.heap.size from Nat.le_trans HL3.out HB4.out.size)
          have HBL4 := Aside0.mk (HB3.out.trans HB4.out)
          have h13 := HIH.out (l.drop (m + 1)) A2 (c1 - (m + 1)) v4 _ w0 w4 lo (by have := HL.out; omega) hC2 (by have := HC1.out; omega) (HB0.out.trans (HBL4.out.mono HL.out.1)) HL.out.1 HL4.out HO4.out (by rw [List.length_append, henl, hl2]; have := HSZ.out; have := HE1.out.2; omega) (fun i hi => by
            have h9 := HKS.out (m + 1 + i) (by omega)
            unfold rd_T74 at h9 ⊢
            rw [Int.toNat_natCast] at h9 ⊢
            rw [List.getD_eq_getElem?_getD, List.getElem?_drop]
            rw [List.getD_eq_getElem?_getD] at h9
            exact h9)
          rw [hl2] at h13
          obtain ⟨rb, hrb⟩ : ∃ rb : Int, rb = rt (out1 ++ EL).length ((l.drop (m + 1)).map kv) := ⟨_, rfl⟩
          obtain ⟨ys, hys⟩ : ∃ ys, ys = out1 ++ EL ++ enc n (out1 ++ EL).length ((l.drop (m + 1)).map kv) := ⟨_, rfl⟩
          rw [← hrb, ← hys] at h13
          have HRB := Aside0.mk (⟨hrb, hys⟩ : _ ∧ _)
          have H13 := Aside0.mk h13
          have HEN := Aside0.mk (⟨hl1, hl2⟩ : _ ∧ _)
          clear hrb hys
          clear h13 hC2 henl hl1 hl2
          go_upto_region 14 with (go_at_call 78; go_loud ((with_reducible refine H13.out.mono ?_); rintro e w5 ⟨v5, rfl, ho, hb⟩; have HO5 := Aside0.mk ho; have HB5 := Aside0.mk hb; clear ho hb))
          have hyl : out.length < ys.length := by rw [HRB.out.2, HE1.out.1]; simp
          obtain ⟨g, cap, ev5, gb, gl, cells, HG⟩ := Kd.R_form HO5.out (by omega)
          subst ev5
          have HGB := Aside0.mk gb
          obtain ⟨hx2, hf2, hR2⟩ := put2 HO5.out out.length hyl ra
          obtain ⟨hx3, hf3, hR3⟩ := put3 hR2 out.length hyl rb
          have HR3 := Aside0.mk hR3
          have hyl2 : (out.length : Int) < (ys.length : Int) := by omega
          have hob : (out.length : Int) ≤ 1048576 := by have := HSZ.out; omega
          clear hR2 hR3 HG gl gb cells hyl
          go_wp2
          go_ret2
          have ert : rt out.length (l.map kv) = (out.length : Int) := rt_pos _ _ (by rw [List.length_map]; have := HL.out.2.2.2; omega)
          refine ⟨.slice (some ⟨g, 0, none⟩) ys.length cap, ?_, ?_, ?_⟩
          · rw [ert]
            rfl
          · have h9 : Kd.R k71 71 _ lo (fun _ => True) _ (put23 ys out.length ra rb) := HR3.out
            rw [final_list x.f0 x.f1 ra rb out out1 ys EL n m (l.map kv) HE1.out.1 HMT.out HX.out (by rw [List.length_map]; have := HL.out.2.2.2; omega) (by rw [HRA.out.1, List.map_take, HE1.out.2]) (by rw [HRA.out.2.1, List.map_take, HE1.out.2]) HRA.out.2.2 (by rw [HRB.out.1, List.map_drop, List.length_append, HRA.out.2.2, HE1.out.2]) (by rw [HRB.out.2, List.map_drop, List.length_append, HRA.out.2.2, HE1.out.2])] at h9
            exact h9
          · exact ((HB3.out.trans (HB4.out.trans HB5.out)).setCell HGB.out _).setCell HGB.out _
end Go.Proofs.Ytjknkeipginpcaa.BuS
end

section
-- Written by a program of this session (pprint.py) out of the translation's print; Lean checks it.
namespace Go.Proofs.Ytjknkeipginpcaa.PQ
open Go.RowKit Go.Proofs.YtjknkeipginpcaaW.PrintWords Go.Proofs.YtjknkeipginpcaaW.PrintLast Go.Proofs.YtjknkeipginpcaaW.PrintMore
attribute [local go_sem] max2_int min2_int max_two min_two max_three min_three max_four min_four   -- for this text's walks alone
set_option linter.unusedVariables false
set_option linter.unusedSimpArgs false

--IMPORT StrOps
attribute [local go_sem] Go.Proofs.Ytjknkeipginpcaa.StrO.leq_s Go.Proofs.Ytjknkeipginpcaa.StrO.gtr_s Go.Proofs.Ytjknkeipginpcaa.StrO.geq_s
/-! ### spec_l7At: function 60 -/
end Go.Proofs.Ytjknkeipginpcaa.PQ
end

section
-- Written by a program of this session (pprint.py) out of the translation's print; Lean checks it.
namespace Go.Proofs.Ytjknkeipginpcaa.PQ
open Go.RowKit Go.Proofs.YtjknkeipginpcaaW.PrintWords Go.Proofs.YtjknkeipginpcaaW.PrintLast Go.Proofs.YtjknkeipginpcaaW.PrintMore
attribute [local go_sem] max2_int min2_int max_two min_two max_three min_three max_four min_four   -- for this text's walks alone
set_option linter.unusedVariables false
set_option linter.unusedSimpArgs false

/-! ### spec_l7Put: function 69 -/
end Go.Proofs.Ytjknkeipginpcaa.PQ
end

/- Several texts in one: what the claim's last text rests on. No conditions. -/
import Derived.Test.YtjknkeipginpcaaMTi5
import Derived.Test.YtjknkeipginpcaaMTi6
import Derived.Test.YtjknkeipginpcaaMTi3
import Derived.Deep.QuietTactic
import Derived.BigQuiet
section
namespace Go.Proofs.Ytjknkeipginpcaa.PQ
open Go.RowKit Go.Proofs.YtjknkeipginpcaaW.PrintWords Go.Proofs.YtjknkeipginpcaaW.PrintLast Go.Proofs.YtjknkeipginpcaaW.PrintMore
attribute [local go_sem] max2_int min2_int max_two min_two max_three min_three max_four min_four
set_option linter.unusedVariables false
set_option linter.unusedSimpArgs false
attribute [local go_sem] Go.Proofs.Ytjknkeipginpcaa.StrO.leq_s Go.Proofs.Ytjknkeipginpcaa.StrO.gtr_s Go.Proofs.Ytjknkeipginpcaa.StrO.geq_s
def impl_heavier.f (k : Nat) (a0 : ByteArray) (a1 : ByteArray) : Option (Bool) := (impl_WeightOf.f k a0).bind fun t101 => ((impl_WeightOf.f k a1).bind fun t102 => (if t101 > t102 then (some true) else (if t101 = t102 then (some (Op.bytesLess a0.toList a1.toList)) else (some false))))
set_option maxHeartbeats 8000000 in
set_option maxRecDepth 100000 in
theorem impl_heavier.calls (k : Nat) (a0 : ByteArray) (a1 : ByteArray) (r : Bool) (w : World) (h : impl_heavier.f k a0 a1 = some r) :
  Calls Try.prog 89 #[.string a0, .string a1] w fun e w' => e = .returned (.bool r) ∧ Drawn0 w w' := by
 have H : ((impl_WeightOf.f k a0).bind fun t101 => ((impl_WeightOf.f k a1).bind fun t102 => (if t101 > t102 then (some true) else (if t101 = t102 then (some (Op.bytesLess a0.toList a1.toList)) else (some false))))) = some r := h
 clear h
 replace H := Option.bind_eq_some_iff.mp H
 obtain ⟨t101, A30, H⟩ := H
 replace H : ((impl_WeightOf.f k a1).bind fun t102 => (if t101 > t102 then (some true) else (if t101 = t102 then (some (Op.bytesLess a0.toList a1.toList)) else (some false)))) = some r := H
 have A3 := aM A30
 clear A30
 replace H := Option.bind_eq_some_iff.mp H
 obtain ⟨t102, A40, H⟩ := H
 replace H : (if t101 > t102 then (some true) else (if t101 = t102 then (some (Op.bytesLess a0.toList a1.toList)) else (some false))) = some r := H
 have A4 := aM A40
 clear A40
 by_cases c5 : t101 > t102
 ·
  rw [if_pos c5] at H
  have c5b0 : decide (t102 < t101) = true := decide_eq_true c5
  clear c5
  obtain rfl := Option.some.inj H
  go_enter Try.func89, Try.ntmps89
  go_wp2_with (first | ((with_reducible refine gate_callee (f := 43) rfl ?_); refine goesL_ (some 8) rfl rfl Try.func43 (by kernel_rfl) rfl #[.string a0] rfl (by (try simp only [List.map_toArray, List.map_cons, List.map_nil]); first | done | rfl | (simp only [List.length_drop, List.length_take]; rfl)) ?_; (with_reducible refine (impl_WeightOf.calls k a0 t101 _ A3.out).mono ?_); rintro e w' ⟨rfl, ⟨nd, rfl⟩⟩; refine ⟨_, rfl, ?_⟩) | ((with_reducible refine gate_callee (f := 43) rfl ?_); refine goesL_ (some 10) rfl rfl Try.func43 (by kernel_rfl) rfl #[.string a1] rfl (by (try simp only [List.map_toArray, List.map_cons, List.map_nil]); first | done | rfl | (simp only [List.length_drop, List.length_take]; rfl)) ?_; (with_reducible refine (impl_WeightOf.calls k a1 t102 _ A4.out).mono ?_); rintro e w' ⟨rfl, ⟨nd, rfl⟩⟩; refine ⟨_, rfl, ?_⟩))
  go_ret
  exact ⟨by first | rfl | (simp; done) | (simp [*]; done), by repeat (first | exact Drawn0.refl _ | apply Drawn0.step)⟩
 ·
  rw [if_neg c5] at H
  have c5b0 : decide (t102 < t101) = false := decide_eq_false c5
  clear c5
  by_cases c6 : t101 = t102
  ·
   rw [if_pos c6] at H
   have c6b0 : (t101 == t102) = true := beq_iff_eq.mpr c6
   have c6b1 : (t101 != t102) = false := bne_eq_false_iff_eq.mpr c6
   clear c6
   obtain rfl := Option.some.inj H
   go_enter Try.func89, Try.ntmps89
   go_wp2_with (first | ((with_reducible refine gate_callee (f := 43) rfl ?_); refine goesL_ (some 8) rfl rfl Try.func43 (by kernel_rfl) rfl #[.string a0] rfl (by (try simp only [List.map_toArray, List.map_cons, List.map_nil]); first | done | rfl | (simp only [List.length_drop, List.length_take]; rfl)) ?_; (with_reducible refine (impl_WeightOf.calls k a0 t101 _ A3.out).mono ?_); rintro e w' ⟨rfl, ⟨nd, rfl⟩⟩; refine ⟨_, rfl, ?_⟩) | ((with_reducible refine gate_callee (f := 43) rfl ?_); refine goesL_ (some 10) rfl rfl Try.func43 (by kernel_rfl) rfl #[.string a1] rfl (by (try simp only [List.map_toArray, List.map_cons, List.map_nil]); first | done | rfl | (simp only [List.length_drop, List.length_take]; rfl)) ?_; (with_reducible refine (impl_WeightOf.calls k a1 t102 _ A4.out).mono ?_); rintro e w' ⟨rfl, ⟨nd, rfl⟩⟩; refine ⟨_, rfl, ?_⟩))
   go_ret
   exact ⟨by first | rfl | (simp; done) | (simp [*]; done), by repeat (first | exact Drawn0.refl _ | apply Drawn0.step)⟩
  ·
   rw [if_neg c6] at H
   have c6b0 : (t101 == t102) = false := beq_eq_false_iff_ne.mpr c6
   have c6b1 : (t101 != t102) = true := bne_iff_ne.mpr c6
   obtain rfl := Option.some.inj H
   go_enter Try.func89, Try.ntmps89
   go_wp2_with (first | ((with_reducible refine gate_callee (f := 43) rfl ?_); refine goesL_ (some 8) rfl rfl Try.func43 (by kernel_rfl) rfl #[.string a0] rfl (by (try simp only [List.map_toArray, List.map_cons, List.map_nil]); first | done | rfl | (simp only [List.length_drop, List.length_take]; rfl)) ?_; (with_reducible refine (impl_WeightOf.calls k a0 t101 _ A3.out).mono ?_); rintro e w' ⟨rfl, ⟨nd, rfl⟩⟩; refine ⟨_, rfl, ?_⟩) | ((with_reducible refine gate_callee (f := 43) rfl ?_); refine goesL_ (some 10) rfl rfl Try.func43 (by kernel_rfl) rfl #[.string a1] rfl (by (try simp only [List.map_toArray, List.map_cons, List.map_nil]); first | done | rfl | (simp only [List.length_drop, List.length_take]; rfl)) ?_; (with_reducible refine (impl_WeightOf.calls k a1 t102 _ A4.out).mono ?_); rintro e w' ⟨rfl, ⟨nd, rfl⟩⟩; refine ⟨_, rfl, ?_⟩))
   go_ret
   exact ⟨by first | rfl | (simp; done) | (simp [*]; done), by repeat (first | exact Drawn0.refl _ | apply Drawn0.step)⟩

def spec_l7Above.f (k : Nat) (a0 : ByteArray) (a1 : ByteArray) : Option (Bool) := (spec_WeightOf.f k a0).bind fun t137 => ((spec_WeightOf.f k a1).bind fun t138 => (if t137 > t138 then (some true) else (if t137 = t138 then (some (Op.bytesLess a0.toList a1.toList)) else (some false))))
set_option maxHeartbeats 8000000 in
set_option maxRecDepth 100000 in
theorem spec_l7Above.calls (k : Nat) (a0 : ByteArray) (a1 : ByteArray) (r : Bool) (w : World) (h : spec_l7Above.f k a0 a1 = some r) :
  Calls Try.prog 88 #[.string a0, .string a1] w fun e w' => e = .returned (.bool r) ∧ Drawn0 w w' := by
 have H : ((spec_WeightOf.f k a0).bind fun t137 => ((spec_WeightOf.f k a1).bind fun t138 => (if t137 > t138 then (some true) else (if t137 = t138 then (some (Op.bytesLess a0.toList a1.toList)) else (some false))))) = some r := h
 clear h
 replace H := Option.bind_eq_some_iff.mp H
 obtain ⟨t137, A30, H⟩ := H
 replace H : ((spec_WeightOf.f k a1).bind fun t138 => (if t137 > t138 then (some true) else (if t137 = t138 then (some (Op.bytesLess a0.toList a1.toList)) else (some false)))) = some r := H
 have A3 := aM A30
 clear A30
 replace H := Option.bind_eq_some_iff.mp H
 obtain ⟨t138, A40, H⟩ := H
 replace H : (if t137 > t138 then (some true) else (if t137 = t138 then (some (Op.bytesLess a0.toList a1.toList)) else (some false))) = some r := H
 have A4 := aM A40
 clear A40
 by_cases c5 : t137 > t138
 ·
  rw [if_pos c5] at H
  have c5b0 : decide (t138 < t137) = true := decide_eq_true c5
  clear c5
  obtain rfl := Option.some.inj H
  go_enter Try.func88, Try.ntmps88
  go_wp2_with (first | ((with_reducible refine gate_callee (f := 44) rfl ?_); refine goesL_ (some 8) rfl rfl Try.func44 (by kernel_rfl) rfl #[.string a0] rfl (by (try simp only [List.map_toArray, List.map_cons, List.map_nil]); first | done | rfl | (simp only [List.length_drop, List.length_take]; rfl)) ?_; (with_reducible refine (spec_WeightOf.calls k a0 t137 _ A3.out).mono ?_); rintro e w' ⟨rfl, ⟨nd, rfl⟩⟩; refine ⟨_, rfl, ?_⟩) | ((with_reducible refine gate_callee (f := 44) rfl ?_); refine goesL_ (some 10) rfl rfl Try.func44 (by kernel_rfl) rfl #[.string a1] rfl (by (try simp only [List.map_toArray, List.map_cons, List.map_nil]); first | done | rfl | (simp only [List.length_drop, List.length_take]; rfl)) ?_; (with_reducible refine (spec_WeightOf.calls k a1 t138 _ A4.out).mono ?_); rintro e w' ⟨rfl, ⟨nd, rfl⟩⟩; refine ⟨_, rfl, ?_⟩))
  go_ret
  exact ⟨by first | rfl | (simp; done) | (simp [*]; done), by repeat (first | exact Drawn0.refl _ | apply Drawn0.step)⟩
 ·
  rw [if_neg c5] at H
  have c5b0 : decide (t138 < t137) = false := decide_eq_false c5
  clear c5
  by_cases c6 : t137 = t138
  ·
   rw [if_pos c6] at H
   have c6b0 : (t137 == t138) = true := beq_iff_eq.mpr c6
   have c6b1 : (t137 != t138) = false := bne_eq_false_iff_eq.mpr c6
   clear c6
   obtain rfl := Option.some.inj H
   go_enter Try.func88, Try.ntmps88
   go_wp2_with (first | ((with_reducible refine gate_callee (f := 44) rfl ?_); refine goesL_ (some 8) rfl rfl Try.func44 (by kernel_rfl) rfl #[.string a0] rfl (by (try simp only [List.map_toArray, List.map_cons, List.map_nil]); first | done | rfl | (simp only [List.length_drop, List.length_take]; rfl)) ?_; (with_reducible refine (spec_WeightOf.calls k a0 t137 _ A3.out).mono ?_); rintro e w' ⟨rfl, ⟨nd, rfl⟩⟩; refine ⟨_, rfl, ?_⟩) | ((with_reducible refine gate_callee (f := 44) rfl ?_); refine goesL_ (some 10) rfl rfl Try.func44 (by kernel_rfl) rfl #[.string a1] rfl (by (try simp only [List.map_toArray, List.map_cons, List.map_nil]); first | done | rfl | (simp only [List.length_drop, List.length_take]; rfl)) ?_; (with_reducible refine (spec_WeightOf.calls k a1 t138 _ A4.out).mono ?_); rintro e w' ⟨rfl, ⟨nd, rfl⟩⟩; refine ⟨_, rfl, ?_⟩))
   go_ret
   exact ⟨by first | rfl | (simp; done) | (simp [*]; done), by repeat (first | exact Drawn0.refl _ | apply Drawn0.step)⟩
  ·
   rw [if_neg c6] at H
   have c6b0 : (t137 == t138) = false := beq_eq_false_iff_ne.mpr c6
   have c6b1 : (t137 != t138) = true := bne_iff_ne.mpr c6
   obtain rfl := Option.some.inj H
   go_enter Try.func88, Try.ntmps88
   go_wp2_with (first | ((with_reducible refine gate_callee (f := 44) rfl ?_); refine goesL_ (some 8) rfl rfl Try.func44 (by kernel_rfl) rfl #[.string a0] rfl (by (try simp only [List.map_toArray, List.map_cons, List.map_nil]); first | done | rfl | (simp only [List.length_drop, List.length_take]; rfl)) ?_; (with_reducible refine (spec_WeightOf.calls k a0 t137 _ A3.out).mono ?_); rintro e w' ⟨rfl, ⟨nd, rfl⟩⟩; refine ⟨_, rfl, ?_⟩) | ((with_reducible refine gate_callee (f := 44) rfl ?_); refine goesL_ (some 10) rfl rfl Try.func44 (by kernel_rfl) rfl #[.string a1] rfl (by (try simp only [List.map_toArray, List.map_cons, List.map_nil]); first | done | rfl | (simp only [List.length_drop, List.length_take]; rfl)) ?_; (with_reducible refine (spec_WeightOf.calls k a1 t138 _ A4.out).mono ?_); rintro e w' ⟨rfl, ⟨nd, rfl⟩⟩; refine ⟨_, rfl, ?_⟩))
   go_ret
   exact ⟨by first | rfl | (simp; done) | (simp [*]; done), by repeat (first | exact Drawn0.refl _ | apply Drawn0.step)⟩

end Go.Proofs.Ytjknkeipginpcaa.PQ
end

section
namespace Go.Proofs.Ytjknkeipginpcaa.Tr
set_option linter.unusedVariables false
open Go.RowKit Go.Proofs.Ytjknkeipginpcaa.PQ Go.Proofs.YtjknkeipginpcaaW.PrintWords Go.Proofs.YtjknkeipginpcaaW.PrintLast Go.Proofs.Ytjknkeipginpcaa.Pre
abbrev KV := ByteArray × ByteArray
def zKV : KV := (⟨#[]⟩, ⟨#[]⟩)
/-- The weight of a key. -/
def wst (s : ByteArray) (h : Int) (i : Nat) : Int := Int.tmod (Go.bits .xor .i64 (wrap64 (33 * h)) (wrap64 (bt s (i : Int)))) 1000003
def wfrom (s : ByteArray) : Nat → Nat → Int → Int
 | 0, _, h => h
 | m + 1, i, h => wfrom s m (i + 1) (wst s h i)
def wt (s : ByteArray) : Int := Int.tmod (wrap64 (wfrom s s.size 0 5381 * 7919)) 1000003
theorem wtI_ev (s : ByteArray) (hs : s.size ≤ 1048576) : Evt (fun k => impl_WeightOf.f k s) (wt s) := by
 unfold impl_WeightOf.f wt
 have key : ∀ (m i : Nat) (h : Int), i + m = s.size → Evt (fun k => impl_WeightOf.l0 k s h (s.size : Int) (i : Int)) (Int.tmod (wrap64 (wfrom s m i h * 7919)) 1000003) := by
  intro m
  induction m with
  | zero => intro i h hi; exact Evt.step (fun k => impl_WeightOf.l0.eq_2 _ _ _ _ k) (Evt.neg (by omega) (Evt.const _))
  | succ m ih =>
   intro i h hi
   have hr := ih (i + 1) (wst s h i) (by omega)
   refine Evt.step (fun k => impl_WeightOf.l0.eq_2 _ _ _ _ k) (Evt.pos (by omega) (Evt.pos (by omega) (Evt.pos (by omega) ?_)))
   rw [w64 (n := (i : Int) + 1) (by omega) (by omega), show (i : Int) + 1 = ((i + 1 : Nat) : Int) by omega]
   exact hr
 exact key s.size 0 5381 (by omega)
theorem wtS_ev (s : ByteArray) (hs : s.size ≤ 1048576) : Evt (fun k => spec_WeightOf.f k s) (wt s) := by
 unfold spec_WeightOf.f wt
 have key : ∀ (m i : Nat) (h : Int), i + m = s.size → Evt (fun k => spec_WeightOf.l0 k s h (i : Int)) (Int.tmod (wrap64 (wfrom s m i h * 7919)) 1000003) := by
  intro m
  induction m with
  | zero => intro i h hi; exact Evt.step (fun k => spec_WeightOf.l0.eq_2 _ _ _ k) (Evt.neg (by omega) (Evt.const _))
  | succ m ih =>
   intro i h hi
   have hr := ih (i + 1) (wst s h i) (by omega)
   refine Evt.step (fun k => spec_WeightOf.l0.eq_2 _ _ _ k) (Evt.pos (by omega) (Evt.pos (by omega) ?_))
   rw [w64 (n := (i : Int) + 1) (by omega) (by omega), show (i : Int) + 1 = ((i + 1 : Nat) : Int) by omega]
   exact hr
 exact key s.size 0 5381 (by omega)
/-- A key stands above another one. -/
def hvy (a b : ByteArray) : Bool := if wt a > wt b then true else if wt a = wt b then Op.bytesLess a.toList b.toList else false
theorem heavI_ev (a b : ByteArray) (ha : a.size ≤ 1048576) (hb : b.size ≤ 1048576) : Evt (fun k => impl_heavier.f k a b) (hvy a b) := by
 unfold impl_heavier.f hvy
 refine Evt.bind (wtI_ev a ha) (Evt.bind (wtI_ev b hb) ?_)
 by_cases h : wt a > wt b
 ·
  exact (Evt.pos h (Evt.const _)).eq (if_pos h).symm
 ·
  refine (Evt.neg h ?_).eq (if_neg h).symm
  by_cases h2 : wt a = wt b
  ·
   exact (Evt.pos h2 (Evt.const _)).eq (if_pos h2).symm
  ·
   exact (Evt.neg h2 (Evt.const _)).eq (if_neg h2).symm
theorem heavS_ev (a b : ByteArray) (ha : a.size ≤ 1048576) (hb : b.size ≤ 1048576) : Evt (fun k => spec_l7Above.f k a b) (hvy a b) := by
 unfold spec_l7Above.f hvy
 refine Evt.bind (wtS_ev a ha) (Evt.bind (wtS_ev b hb) ?_)
 by_cases h : wt a > wt b
 ·
  exact (Evt.pos h (Evt.const _)).eq (if_pos h).symm
 ·
  refine (Evt.neg h ?_).eq (if_neg h).symm
  by_cases h2 : wt a = wt b
  ·
   exact (Evt.pos h2 (Evt.const _)).eq (if_pos h2).symm
  ·
   exact (Evt.neg h2 (Evt.const _)).eq (if_neg h2).symm
theorem heavI (a b : ByteArray) (ha : a.size ≤ 1048576) (hb : b.size ≤ 1048576) (w : World) : Calls Try.prog 89 #[.string a, .string b] w fun e w' => e = .returned (.bool (hvy a b)) ∧ ∃ m, w' = w.drewN m := by
 obtain ⟨k, h⟩ := (heavI_ev a b ha hb).ex
 refine (impl_heavier.calls k a b _ w h).mono ?_
 rintro e w' ⟨rfl, ⟨nd, rfl⟩⟩
 exact ⟨rfl, nd, rfl⟩
theorem heavS (a b : ByteArray) (ha : a.size ≤ 1048576) (hb : b.size ≤ 1048576) (w : World) : Calls Try.prog 88 #[.string a, .string b] w fun e w' => e = .returned (.bool (hvy a b)) ∧ ∃ m, w' = w.drewN m := by
 obtain ⟨k, h⟩ := (heavS_ev a b ha hb).ex
 refine (spec_l7Above.calls k a b _ w h).mono ?_
 rintro e w' ⟨rfl, ⟨nd, rfl⟩⟩
 exact ⟨rfl, nd, rfl⟩

/-- The heaviest of the first keys. -/
def topF (l : List KV) : Nat → Nat
 | 0 => 0
 | i + 1 => if hvy (l.getD i zKV).1 (l.getD (topF l i) zKV).1 = true then i else topF l i
theorem topF_lt (l : List KV) (hl : 0 < l.length) : ∀ i, i ≤ l.length → topF l i < l.length
 | 0, _ => hl
 | i + 1, h => by
  unfold topF
  split
  ·
   omega
  ·
   exact topF_lt l hl i (by omega)
def top (l : List KV) : Nat := topF l l.length
theorem top_lt (l : List KV) (hl : 0 < l.length) : top l < l.length := topF_lt l hl _ (Nat.le_refl _)
/-- The number of the root of what is laid from a place on. -/
def rt (b : Nat) (l : List KV) : Int := if l.length = 0 then -1 else (b : Int)
abbrev Lb := S71
def enc : Nat → Nat → List KV → List Lb
 | 0, _, _ => []
 | n + 1, b, l => if l.length = 0 then [] else ⟨(l.getD (top l) zKV).1, (l.getD (top l) zKV).2, rt (b + 1) (l.take (top l)), rt (b + 1 + top l) (l.drop (top l + 1))⟩ :: (enc n (b + 1) (l.take (top l)) ++ enc n (b + 1 + top l) (l.drop (top l + 1)))
theorem enc_len : ∀ (n b : Nat) (l : List KV), l.length ≤ n → (enc n b l).length = l.length
 | 0, b, l, h => by simp [enc]; omega
 | n + 1, b, l, h => by
  unfold enc
  by_cases hz : l.length = 0
  ·
   rw [if_pos hz, hz]
   rfl
  ·
   rw [if_neg hz]
   have ht := top_lt l (by omega)
   have h1 := enc_len n (b + 1) (l.take (top l)) (by rw [List.length_take]; omega)
   have h2 := enc_len n (b + 1 + top l) (l.drop (top l + 1)) (by rw [List.length_drop]; omega)
   rw [List.length_cons, List.length_append, h1, h2, List.length_take, List.length_drop]
   omega
theorem rt_pos (b : Nat) (l : List KV) (h : l.length ≠ 0) : rt b l = (b : Int) := if_neg h
/-- Stores into a limb. -/
theorem put2 {W : World} {base g n cap : Nat} {ok : Nat → Prop} {xs : List Lb} (h : Kd.R k71 71 W base ok (.slice (some ⟨g, 0, none⟩) n cap) xs) (i : Nat) (hi : i < n) (x : Int) :
  W.cell? ⟨g, i * 4 + 2, none⟩ = some (.int .i64 (rd_T71 xs (i : Int)).f2) ∧ W.frozen? ⟨g, i * 4 + 2, none⟩ = false ∧
  Kd.R k71 71 (W.setCell ⟨g, i * 4 + 2, none⟩ (.int .i64 x)) base ok (.slice (some ⟨g, 0, none⟩) n cap) (xs.set i ⟨(rd_T71 xs (i : Int)).f0, (rd_T71 xs (i : Int)).f1, x, (rd_T71 xs (i : Int)).f3⟩) := by
 obtain ⟨ce, hcl, hM, hcc, hfr⟩ := Kd.R_elem h z71 (i : Int) (by omega) (by omega)
 obtain rfl := k71_openM hM
 have hx : W.cell? ⟨g, (i : Int).toNat * 4 + 2, none⟩ = some (.int .i64 (rd_T71 xs (i : Int)).f2) := hcc 2 _ rfl
 have hf : W.frozen? ⟨g, (i : Int).toNat * 4 + 2, none⟩ = false := hfr 2
 have hp := (Kd.R_seg h (i : Int) (by omega) (by omega) (seg := [.int .i64 x]) (j := 2) hcl hcc (show 2 + 1 ≤ 4 from by decide) (x' := (⟨(rd_T71 xs (i : Int)).f0, (rd_T71 xs (i : Int)).f1, x, (rd_T71 xs (i : Int)).f3⟩ : Lb)) (k71_mkM _ _ _ _) (fun _ hk => hk)).1
 rw [Int.toNat_natCast] at hx hf hp
 exact ⟨hx, hf, hp⟩
theorem put3 {W : World} {base g n cap : Nat} {ok : Nat → Prop} {xs : List Lb} (h : Kd.R k71 71 W base ok (.slice (some ⟨g, 0, none⟩) n cap) xs) (i : Nat) (hi : i < n) (x : Int) :
  W.cell? ⟨g, i * 4 + 3, none⟩ = some (.int .i64 (rd_T71 xs (i : Int)).f3) ∧ W.frozen? ⟨g, i * 4 + 3, none⟩ = false ∧
  Kd.R k71 71 (W.setCell ⟨g, i * 4 + 3, none⟩ (.int .i64 x)) base ok (.slice (some ⟨g, 0, none⟩) n cap) (xs.set i ⟨(rd_T71 xs (i : Int)).f0, (rd_T71 xs (i : Int)).f1, (rd_T71 xs (i : Int)).f2, x⟩) := by
 obtain ⟨ce, hcl, hM, hcc, hfr⟩ := Kd.R_elem h z71 (i : Int) (by omega) (by omega)
 obtain rfl := k71_openM hM
 have hx : W.cell? ⟨g, (i : Int).toNat * 4 + 3, none⟩ = some (.int .i64 (rd_T71 xs (i : Int)).f3) := hcc 3 _ rfl
 have hf : W.frozen? ⟨g, (i : Int).toNat * 4 + 3, none⟩ = false := hfr 3
 have hp := (Kd.R_seg h (i : Int) (by omega) (by omega) (seg := [.int .i64 x]) (j := 3) hcl hcc (show 3 + 1 ≤ 4 from by decide) (x' := (⟨(rd_T71 xs (i : Int)).f0, (rd_T71 xs (i : Int)).f1, (rd_T71 xs (i : Int)).f2, x⟩ : Lb)) (k71_mkM _ _ _ _) (fun _ hk => hk)).1
 rw [Int.toNat_natCast] at hx hf hp
 exact ⟨hx, hf, hp⟩
/-- The list behind both stores. -/
def put23 (ys : List Lb) (i : Nat) (ra rb : Int) : List Lb :=
 (ys.set i ⟨(rd_T71 ys (i : Int)).f0, (rd_T71 ys (i : Int)).f1, ra, (rd_T71 ys (i : Int)).f3⟩).set i
  ⟨(rd_T71 (ys.set i ⟨(rd_T71 ys (i : Int)).f0, (rd_T71 ys (i : Int)).f1, ra, (rd_T71 ys (i : Int)).f3⟩) (i : Int)).f0, (rd_T71 (ys.set i ⟨(rd_T71 ys (i : Int)).f0, (rd_T71 ys (i : Int)).f1, ra, (rd_T71 ys (i : Int)).f3⟩) (i : Int)).f1, (rd_T71 (ys.set i ⟨(rd_T71 ys (i : Int)).f0, (rd_T71 ys (i : Int)).f1, ra, (rd_T71 ys (i : Int)).f3⟩) (i : Int)).f2, rb⟩
theorem put23_eq (A B : List Lb) (k v : ByteArray) (p q ra rb : Int) : put23 (A ++ [⟨k, v, p, q⟩] ++ B) A.length ra rb = A ++ [⟨k, v, ra, rb⟩] ++ B := by
 have h1 : ∀ (y : Lb) (C : List Lb), rd_T71 (A ++ [y] ++ C) (A.length : Int) = y := by
  intro y C
  unfold rd_T71
  simp
 have h2 : ∀ (y z : Lb) (C : List Lb), (A ++ [y] ++ C).set A.length z = A ++ [z] ++ C := by
  intro y z C
  simp
 unfold put23
 rw [h1, h2, h1, h2]
theorem final_list (kx vx : ByteArray) (ra rb : Int) (out out1 ys EL : List Lb) (n m : Nat) (L : List KV) (h1 : out1 = out ++ [⟨kx, vx, 0, 0⟩]) (hm : m = top L) (hx : (L.getD m zKV).1 = kx ∧ (L.getD m zKV).2 = vx) (hL : L.length ≠ 0) (hra : ra = rt (out.length + 1) (L.take m)) (hEL : EL = enc n (out.length + 1) (L.take m)) (hEl : EL.length = m) (hrb : rb = rt (out.length + 1 + m) (L.drop (m + 1))) (hys : ys = out1 ++ EL ++ enc n (out.length + 1 + m) (L.drop (m + 1))) :
  put23 ys out.length ra rb = out ++ enc (n + 1) out.length L := by
 rw [hys, h1, List.append_assoc, put23_eq]
 have e : enc (n + 1) out.length L = ⟨(L.getD (top L) zKV).1, (L.getD (top L) zKV).2, rt (out.length + 1) (L.take (top L)), rt (out.length + 1 + top L) (L.drop (top L + 1))⟩ :: (enc n (out.length + 1) (L.take (top L)) ++ enc n (out.length + 1 + top L) (L.drop (top L + 1))) := by
  conv => lhs; unfold enc
  rw [if_neg hL]
 rw [e, ← hm, hx.1, hx.2, hra, hrb, hEL]
 simp
end Go.Proofs.Ytjknkeipginpcaa.Tr
end

section
namespace Go.Proofs.Ytjknkeipginpcaa.BuI
set_option linter.unusedVariables false
set_option linter.unusedSimpArgs false
open Go.RowKit Go.Proofs.Ytjknkeipginpcaa.PQ Go.Proofs.YtjknkeipginpcaaW.PrintWords Go.Proofs.YtjknkeipginpcaaW.PrintLast Go.Proofs.YtjknkeipginpcaaW.PrintMore Go.Proofs.Ytjknkeipginpcaa.Pre Go.Proofs.Ytjknkeipginpcaa.Tr
def kv (x : S80) : KV := (x.f0, x.f1)
theorem kv_key (l : List S80) (i : Nat) (hi : i < l.length) : ((l.map kv).getD i zKV).1 = (rd_T80 l (i : Int)).f0 ∧ ((l.map kv).getD i zKV).2 = (rd_T80 l (i : Int)).f1 := by
 unfold rd_T80
 simp [hi, kv]
theorem rdE_nat (l : List S80) (i : Nat) (w : World) (A : Option Addr) (h : Kd.C k80 w A l.length l) (hi : i < l.length) : ∃ ad, A = some ad ∧ w.cell? (ad.add (i * 2)) = some (.string (rd_T80 l (i : Int)).f0) ∧ w.cell? ⟨(ad.add (i * 2)).block, (ad.add (i * 2)).off + 1, none⟩ = some (.string (rd_T80 l (i : Int)).f1) := by
 obtain ⟨ad, e, h1, h2⟩ := at_T80 h (i : Int) (by omega) (by omega)
 rw [Int.toNat_natCast] at h1 h2
 exact ⟨ad, e, h1, h2⟩

set_option maxHeartbeats 4000000 in
set_option maxRecDepth 100000 in
theorem calls : ∀ (n : Nat) (l : List S80) (A1 : Option Addr) (c1 : Nat) (v : Value) (out : List S71) (w0 w : World) (lo : Nat), l.length ≤ n → Kd.C k80 w0 A1 l.length l → l.length ≤ c1 → Below w0.heap.size w0 w → w0.heap.size ≤ lo → lo ≤ w.heap.size → Kd.R k71 71 w lo (fun _ => True) v out → out.length + l.length ≤ 1048576 → (∀ i : Nat, i < l.length → (rd_T80 l (i : Int)).f0.size ≤ 1048576) →
  Calls Try.prog 79 #[v, .slice A1 l.length c1] w fun e w' => ∃ v' : Value, e = .returned (.tuple #[v', .int .i64 (rt out.length (l.map kv))]) ∧ Kd.R k71 71 w' lo (fun _ => True) v' (out ++ enc n out.length (l.map kv)) ∧ Below lo w w' := by
 intro n
 induction n with
 | zero =>
  intro l A1 c1 v out w0 w lo hn hC hc1 hB0 hlo hlow hR hsz hks
  obtain rfl : l = [] := List.eq_nil_of_length_eq_zero (by omega)
  have HR := aM hR
  clear hR hC hB0
  go_enter Try.func79, Try.ntmps79
  go_wp2
  go_ret2
  exact ⟨_, rfl, by rw [show enc 0 out.length (([] : List S80).map kv) = [] from rfl, List.append_nil]; exact HR.out, Below.refl _ _⟩
 | succ n ih =>
  intro l A1 c1 v out w0 w lo hn hC hc1 hB0 hlo hlow hR hsz hks
  obtain ⟨Ao, co, ev, hco, _⟩ := Kd.R_reads hR
  subst ev
  have HR := aM hR
  by_cases hz : l.length = 0
  ·
   obtain rfl : l = [] := List.eq_nil_of_length_eq_zero hz
   clear hR hC hB0 ih
   go_enter Try.func79, Try.ntmps79
   go_wp2
   go_ret2
   exact ⟨_, rfl, by rw [show enc (n + 1) out.length (([] : List S80).map kv) = [] from rfl, List.append_nil]; exact HR.out, Below.refl _ _⟩
  ·
   have HC := aM hC
   have HC1 := aM hc1
   have HB0 := aM hB0
   have HL := aM (⟨hlo, hlow, hn, by omega⟩ : w0.heap.size ≤ lo ∧ lo ≤ w.heap.size ∧ l.length ≤ n + 1 ∧ 0 < l.length)
   have HSZ := aM hsz
   have HKS := aM hks
   have HIH := aM ih
   have hz2 : ((l.length : Int) == 0) = false := by rw [beq_eq_false_iff_ne]; omega
   have hz3 : ¬ (l.length : Int) = 0 := by omega
   have hlb : (l.length : Int) ≤ 1048576 := by omega
   clear hR hC hc1 hB0 hlo hlow hn hsz hks ih hz
   go_enter Try.func79, Try.ntmps79
   go_wp2
   go_loopg [6, 17] l.length (fun kq v6 v17 w' => ∃ i : Nat, v6 = .int .i64 ((topF (l.map kv) i : Nat) : Int) ∧ v17 = .int .i64 (i : Int) ∧ i ≤ l.length ∧ kq = l.length - i ∧ ∃ q, w' = w.drewN q)
   case atStart => exact ⟨0, rfl, rfl, Nat.zero_le _, rfl, 0, rfl⟩
   case round =>
    obtain ⟨i, rfl, rfl, hi, hk, q, hw⟩ := hrel
    have HW := aM hw
    have htl := topF_lt (l.map kv) (by rw [List.length_map]; exact HL.out.2.2.2) i (by rw [List.length_map]; exact hi)
    rw [List.length_map] at htl
    have HCw := aM (Kd.C_below HC.out HB0.out)
    by_cases hlt : i < l.length
    ·
     obtain ⟨tp, htp⟩ : ∃ tp, tp = topF (l.map kv) i := ⟨_, rfl⟩
     rw [← htp] at htl ⊢
     obtain ⟨ad, e, h1, _⟩ := rdE_nat l i w A1 HCw.out hlt
     subst e
     obtain ⟨ad', e, h2, _⟩ := rdE_nat l tp w (some ad) HCw.out htl
     cases e
     have h1' : wr.cell? (ad.add (i * 2)) = some (.string (rd_T80 l (i : Int)).f0) := by rw [hw]; exact h1
     have h2' : wr.cell? (ad.add (tp * 2)) = some (.string (rd_T80 l (tp : Int)).f0) := by rw [hw]; exact h2
     clear hw
     have hstep : topF (l.map kv) (i + 1) = if hvy (rd_T80 l (i : Int)).f0 (rd_T80 l (tp : Int)).f0 = true then i else tp := by
      show (if hvy ((l.map kv).getD i zKV).1 ((l.map kv).getD (topF (l.map kv) i) zKV).1 = true then i else topF (l.map kv) i) = _
      rw [← htp, (kv_key l i hlt).1, (kv_key l tp htl).1]
     have HST := aM hstep
     have hsi := HKS.out i hlt
     have hst := HKS.out tp htl
     have HV := fun W => heavI (rd_T80 l (i : Int)).f0 (rd_T80 l (tp : Int)).f0 hsi hst W
     generalize (rd_T80 l (i : Int)).f0 = ka at *
     generalize (rd_T80 l (tp : Int)).f0 = kb at *
     have hi2 : (i : Int) < (l.length : Int) := by omega
     have ht2 : (tp : Int) < (l.length : Int) := by omega
     clear h1 h2 hstep hsi hst htp
     cases hb : hvy ka kb with
     | true =>
      rw [hb] at HV
      have HHV := aM HV
      clear HV
      go_wp2
      go_quiet ((go_at_call 89; exact Calls.quiet_of (HHV.out _)))
      go_wp2
      go_roundg (l.length - (i + 1))
      case measure => omega
      case rel => exact ⟨i + 1, by rw [HST.out, if_pos hb], by go_num, by omega, rfl, q + nq, by rw [HW.out, World.drewN_drewN]⟩
     | false =>
      rw [hb] at HV
      have HHV := aM HV
      clear HV
      go_wp2
      go_quiet ((go_at_call 89; exact Calls.quiet_of (HHV.out _)))
      go_wp2
      go_roundg (l.length - (i + 1))
      case measure => omega
      case rel => exact ⟨i + 1, by rw [HST.out, if_neg (by rw [hb]; decide)], by go_num, by omega, rfl, q + nq, by rw [HW.out, World.drewN_drewN]⟩
    ·
     obtain rfl : i = l.length := by omega
     obtain ⟨m, hm⟩ : ∃ m, m = topF (l.map kv) l.length := ⟨_, rfl⟩
     rw [← hm] at htl ⊢
     have HMT := aM (show m = top (l.map kv) by rw [hm]; unfold top; rw [List.length_map])
     obtain ⟨x, hx⟩ : ∃ x, x = rd_T80 l (m : Int) := ⟨_, rfl⟩
     obtain ⟨ad, e, h1, h2⟩ := rdE_nat l m w0 A1 HC.out htl
     subst e
     rw [← hx] at h1 h2
     have HX := aM (show ((l.map kv).getD m zKV).1 = x.f0 ∧ ((l.map kv).getD m zKV).2 = x.f1 by rw [hx]; exact kv_key l m htl)
     have HH := aM (fun (W : World) (hb : Below w0.heap.size w0 W) => (⟨(hb.cell (World.block_lt_of_cell? w0 _ h1)).trans h1, (hb.cell (World.block_lt_of_cell? w0 _ h2)).trans h2⟩ : W.cell? (ad.add (m * 2)) = some (.string x.f0) ∧ W.cell? ⟨(ad.add (m * 2)).block, (ad.add (m * 2)).off + 1, none⟩ = some (.string x.f1)))
     have HBW := aM (show Below w0.heap.size w0 wr by rw [hw]; exact pw_below_drewN HB0.out q)
     have HBl1 := aM (show Below lo w wr by rw [hw]; exact pw_below_drewN (Below.refl _ _) q)
     have HO1 := aM (show Kd.R k71 71 wr lo (fun _ => True) (.slice Ao out.length co) out by rw [hw]; exact Kd.R_drewN HR.out q)
     have HLo1 := aM (show lo ≤ wr.heap.size by rw [hw]; exact HL.out.2.1)
     have hml : (m : Int) < (l.length : Int) := by omega
     have HM := aM htl
     clear hm hx h1 h2 hw HW htl
     go_upto_region 11 with (fail)
     refine start_ (n := 15) (S := fun w' => w'.cell? (ad.add (m * 2)) = some (.string x.f0) ∧ w'.cell? ⟨(ad.add (m * 2)).block, (ad.add (m * 2)).off + 1, none⟩ = some (.string x.f1)) (ds := []) #[false, false, false, false, false, false, false, false, false, false, false, false, false, false, false] (by kernel_rfl) rfl rfl ⟨(HH.out wr.drew HBW.out.drew).1, (HH.out wr.drew HBW.out.drew).2⟩ (fun hHeld => ?_)
     refine pure_ (i := 0) (N := some 35) (v := ?_) (a' := ?_) #[true, false, false, false, false, false, false, false, false, false, false, false, false, false, false] rfl rfl (by kernel_rfl) (fun _ _ _ h => h) (Or.inl ⟨by rfl, ?_⟩) ?_ ?_
     rotate_left
     ·
      intro w'
      go_simp
      with_reducible rfl
     rotate_left
     ·
      simp only [Act.put, zSA, zSB, zSC, i64_w, i32_w]
      rfl
     refine pure_ (i := 1) (N := some 36) (v := ?_) (a' := ?_) #[true, true, false, false, false, false, false, false, false, false, false, false, false, false, false] rfl rfl (by kernel_rfl) (fun _ _ _ h => h) (Or.inl ⟨by rfl, ?_⟩) ?_ ?_
     rotate_left
     ·
      intro w'
      go_simp
      with_reducible rfl
     rotate_left
     ·
      simp only [Act.put, zSA, zSB, zSC, i64_w, i32_w]
      rfl
     refine pure_ (i := 2) (N := some 37) (v := ?_) (a' := ?_) #[true, true, true, false, false, false, false, false, false, false, false, false, false, false, false] rfl rfl (by kernel_rfl) (fun _ _ _ h => h) (Or.inl ⟨by rfl, ?_⟩) ?_ ?_
     rotate_left
     ·
      intro w'
      go_simp
      with_reducible rfl
     rotate_left
     ·
      simp only [Act.put, zSA, zSB, zSC, i64_w, i32_w]
      rfl
     refine pure_ (i := 3) (N := some 38) (v := ?_) (a' := ?_) #[true, true, true, true, false, false, false, false, false, false, false, false, false, false, false] rfl rfl (by kernel_rfl) (fun _ _ _ h => h) (Or.inl ⟨by rfl, ?_⟩) ?_ ?_
     rotate_left
     ·
      intro w'
      go_simp
      with_reducible rfl
     rotate_left
     ·
      simp only [Act.put, zSA, zSB, zSC, i64_w, i32_w]
      rfl
     refine pure_ (i := 4) (N := some 39) (v := ?_) (a' := ?_) #[true, true, true, true, true, false, false, false, false, false, false, false, false, false, false] rfl rfl (by kernel_rfl) (fun _ _ _ h => h) (Or.inl ⟨by rfl, ?_⟩) ?_ ?_
     rotate_left
     ·
      intro w'
      go_simp
      with_reducible rfl
     rotate_left
     ·
      simp only [Act.put, zSA, zSB, zSC, i64_w, i32_w]
      rfl
     refine pure_ (i := 6) (N := some 41) (v := ?_) (a' := ?_) #[true, true, true, true, true, false, true, false, false, false, false, false, false, false, false] rfl rfl (by kernel_rfl) (fun _ _ _ h => h) (Or.inl ⟨by rfl, ?_⟩) ?_ ?_
     rotate_left
     ·
      intro w'
      go_simp
      with_reducible rfl
     rotate_left
     ·
      simp only [Act.put, zSA, zSB, zSC, i64_w, i32_w]
      rfl
     refine pure_ (i := 7) (N := some 42) (v := ?_) (a' := ?_) #[true, true, true, true, true, false, true, true, false, false, false, false, false, false, false] rfl rfl (by kernel_rfl) (fun _ _ _ h => h) (Or.inl ⟨by rfl, ?_⟩) ?_ ?_
     rotate_left
     ·
      intro w'
      go_simp
      with_reducible rfl
     rotate_left
     ·
      simp only [Act.put, zSA, zSB, zSC, i64_w, i32_w]
      rfl
     refine pure_ (i := 8) (N := some 43) (v := ?_) (a' := ?_) #[true, true, true, true, true, false, true, true, true, false, false, false, false, false, false] rfl rfl (by kernel_rfl) (fun _ _ _ h => h) (Or.inl ⟨by rfl, ?_⟩) ?_ ?_
     rotate_left
     ·
      intro w'
      go_simp
      with_reducible rfl
     rotate_left
     ·
      simp only [Act.put, zSA, zSB, zSC, i64_w, i32_w]
      rfl
     refine pure_ (i := 9) (N := some 44) (v := ?_) (a' := ?_) #[true, true, true, true, true, false, true, true, true, true, false, false, false, false, false] rfl rfl (by kernel_rfl) (fun _ _ _ h => h) (Or.inl ⟨by rfl, ?_⟩) ?_ ?_
     rotate_left
     ·
      intro w'
      go_simp
      with_reducible rfl
     rotate_left
     ·
      simp only [Act.put, zSA, zSB, zSC, i64_w, i32_w]
      rfl
     refine take_ (i := 5) (N := some 40) (v := ?_) (a' := ?_) #[true, true, true, true, true, true, true, true, true, true, false, false, false, false, false] rfl rfl (by kernel_rfl) (fun _ _ _ h => h) (Or.inl ⟨by rfl, ?_⟩) hHeld ?_ ?_
     rotate_left
     ·
      rintro w' ⟨s0, s1⟩
      go_simp
      with_reducible rfl
     rotate_left
     ·
      simp only [Act.put, zSA, zSB, zSC, i64_w, i32_w]
      rfl
     refine take_ (i := 10) (N := some 45) (v := ?_) (a' := ?_) #[true, true, true, true, true, true, true, true, true, true, true, false, false, false, false] rfl rfl (by kernel_rfl) (fun _ _ _ h => h) (Or.inl ⟨by rfl, ?_⟩) hHeld ?_ ?_
     rotate_left
     ·
      rintro w' ⟨s0, s1⟩
      go_simp
      with_reducible rfl
     rotate_left
     ·
      simp only [Act.put, zSA, zSB, zSC, i64_w, i32_w]
      rfl
     refine pure_ (i := 11) (N := some 46) (v := ?_) (a' := ?_) #[true, true, true, true, true, true, true, true, true, true, true, true, false, false, false] rfl rfl (by kernel_rfl) (fun _ _ _ h => h) (Or.inl ⟨by rfl, ?_⟩) ?_ ?_
     rotate_left
     ·
      intro w'
      go_simp
      with_reducible rfl
     rotate_left
     ·
      simp only [Act.put, zSA, zSB, zSC, i64_w, i32_w]
      rfl
     refine one_ (i := 12) (N := some 47) #[true, true, true, true, true, true, true, true, true, true, true, true, true, false, false] rfl rfl (by kernel_rfl) (by decide) (fun K hK => ?_)
     refine value_ (w1 := ?_) (v := ?_) (by rfl) rfl ?_ ?_
     rotate_left 2
     ·
      go_simp
      constructor
      ·
       rfl
      ·
       rfl
     refine hK.out _ _ ⟨(HH.out _ (below_alloc HBW.out.drew _)).1, (HH.out _ (below_alloc HBW.out.drew _)).2⟩ (fun hHeld => ?_)
     clear hK K
     refine norm_ (a' := ?_) ?_ ?_
     rotate_left
     ·
      show Act.put _ (some 47) _ = _
      simp only [Act.put, zSA, zSB, zSC, i64_w, i32_w]
      rfl
     refine one_ (i := 13) (N := some 48) #[true, true, true, true, true, true, true, true, true, true, true, true, true, true, false] rfl rfl (by kernel_rfl) (by decide) (fun K hK => ?_)
     refine Kd.R_append_step k71 (w0 := w) lo (by rfl) (.tmp 35) (.tmp 47) 27 71 (.agg #[(.string ⟨#[]⟩), (.string ⟨#[]⟩), (.int .i64 0), (.int .i64 0)]) 48 rfl Try.underlying27 info71 rfl (by decide) (by omega) (.slice Ao out.length co) out (⟨x.f0, x.f1, 0, 0⟩ : S71) _ (fun _ => True) (fun _ => False) rfl rfl (k71_mkM _ _ _ _) (fun _ h => h.elim) (fun _ _ => trivial) (Kd.R_drew HO1.out) (HBl1.out).drew HLo1.out (by have := HSZ.out; omega) ?_
     intro v1 w3 ho1 hb1 hg1 hat1
     have HO3 := aM ho1
     have HB3 := aM hb1
     clear hat1 hg1 ho1 hb1
     refine hK.out _ _ ⟨(HH.out w3 (HB0.out.trans (HB3.out.mono HL.out.1))).1, (HH.out w3 (HB0.out.trans (HB3.out.mono HL.out.1))).2⟩ (fun hHeld => ?_)
     clear hK K
     refine norm_ (a' := ?_) ?_ ?_
     rotate_left
     ·
      show Act.put _ (some 48) _ = _
      simp only [Act.put, zSA, zSB, zSC, i64_w, i32_w]
      rfl
     refine pure_ (i := 14) (N := some 0) (v := ?_) (a' := ?_) #[true, true, true, true, true, true, true, true, true, true, true, true, true, true, true] rfl rfl (by kernel_rfl) (fun _ _ _ h => h) (Or.inl ⟨by rfl, ?_⟩) ?_ ?_
     rotate_left
     ·
      intro w'
      go_simp
      with_reducible rfl
     rotate_left
     ·
      simp only [Act.put, zSA, zSB, zSC, i64_w, i32_w]
      rfl
     refine done_ (by kernel_rfl) ?_
     have hmn : m < l.length := HM.out
     obtain ⟨out1, he1⟩ : ∃ o, o = out ++ [(⟨x.f0, x.f1, 0, 0⟩ : S71)] := ⟨_, rfl⟩
     rw [← he1] at HO3
     have ho1 : out1.length = out.length + 1 := by rw [he1]; simp
     have HE1 := aM (⟨he1, ho1⟩ : _ ∧ _)
     clear he1
     obtain ⟨i0, hinfo, _, hsz0, _⟩ := info_parts info80
     have hcut1 := cut_to (P := Try.prog) 66 80 .i64 Try.underlying66 hinfo (some ad) l.length c1 (m : Int) (by omega) (by omega) HC1.out
     have hcut2 := cut_from (P := Try.prog) 66 80 .i64 Try.underlying66 hinfo 2 hsz0 (some ad) l.length c1 ((m : Int) + 1) (by omega) (by omega)
     have etn : ((m : Int) + 1).toNat = m + 1 := by omega
     rw [Int.toNat_natCast] at hcut1
     rw [etn] at hcut2
     have hC1 := Kd.C_take (m := m) HC.out (by omega)
     have hC2 := Kd.C_drop (m := m + 1) HC.out (by omega) HC1.out
     have hl1 : (l.take m).length = m := by rw [List.length_take]; omega
     have hl2 : (l.drop (m + 1)).length = l.length - (m + 1) := List.length_drop
     have HL3 := aM (show lo ≤ w3.heap.size from Nat.le_trans HL.out.2.1 HB3.out.size)
     have h12 := HIH.out (l.take m) (some ad) c1 v1 out1 w0 w3 lo (by have := HL.out; omega) hC1 (by have := HC1.out; omega) (HB0.out.trans (HB3.out.mono HL.out.1)) HL.out.1 HL3.out HO3.out (by rw [hl1]; have := HSZ.out; omega) (fun i hi => by
      have h9 := HKS.out i (by omega)
      unfold rd_T80 at h9 ⊢
      rw [Int.toNat_natCast] at h9 ⊢
      rw [List.getD_eq_getElem?_getD, List.getElem?_take, if_pos (by omega)]
      rw [List.getD_eq_getElem?_getD] at h9
      exact h9)
     rw [hl1] at h12
     obtain ⟨ra, hra⟩ : ∃ ra : Int, ra = rt out1.length ((l.take m).map kv) := ⟨_, rfl⟩
     obtain ⟨EL, hEL⟩ : ∃ EL, EL = enc n out1.length ((l.take m).map kv) := ⟨_, rfl⟩
     rw [← hra, ← hEL] at h12
     have henl : EL.length = m := by
      rw [hEL, enc_len n _ _ (by rw [List.length_map]; have := HL.out; omega), List.length_map, hl1]
     have HRA := aM (⟨hra, hEL, henl⟩ : _ ∧ _ ∧ _)
     have H12 := aM h12
     clear hra hEL henl
     obtain ⟨A2, hA2⟩ : ∃ A2 : Option Addr, A2 = (if c1 = m + 1 then some ad else Option.map (fun a => a.add ((m + 1) * 2)) (some ad)) := ⟨_, rfl⟩
     have hC2' : Kd.C k80 w0 A2 (l.drop (m + 1)).length (l.drop (m + 1)) := by rw [hA2]; exact hC2
     have hcut2' : ∀ W : World, (Instr.slice 66 (.slice (some ad) l.length c1) (some (.int .i64 ((m : Int) + 1))) none none).run Try.prog W = .ok (.slice A2 (l.length - (m + 1)) (c1 - (m + 1))) W := by rw [hA2]; exact hcut2
     have HCT := aM (⟨hcut2', hC2', hl1, hl2⟩ : _ ∧ _ ∧ _ ∧ _)
     clear ho1 h12 hC1 hC2 hinfo hsz0 etn hcut2 hl1 hl2 hA2 hC2' hcut2'
     go_upto_region 13 with (go_at_call 79; go_loud ((with_reducible refine H12.out.mono ?_); rintro e w4 ⟨v4, rfl, ho, hb⟩; have HO4 := aM ho; have HB4 := aM hb; clear ho hb))
     obtain ⟨hcut2, hC2, hl1, hl2⟩ := HCT.out
     have henl := HRA.out.2.2
     have HL4 := aM (show lo ≤ w4.heap.size from Nat.le_trans HL3.out HB4.out.size)
     have HBL4 := aM (HB3.out.trans HB4.out)
     have h13 := HIH.out (l.drop (m + 1)) A2 (c1 - (m + 1)) v4 _ w0 w4 lo (by have := HL.out; omega) hC2 (by have := HC1.out; omega) (HB0.out.trans (HBL4.out.mono HL.out.1)) HL.out.1 HL4.out HO4.out (by rw [List.length_append, henl, hl2]; have := HSZ.out; have := HE1.out.2; omega) (fun i hi => by
      have h9 := HKS.out (m + 1 + i) (by omega)
      unfold rd_T80 at h9 ⊢
      rw [Int.toNat_natCast] at h9 ⊢
      rw [List.getD_eq_getElem?_getD, List.getElem?_drop]
      rw [List.getD_eq_getElem?_getD] at h9
      exact h9)
     rw [hl2] at h13
     obtain ⟨rb, hrb⟩ : ∃ rb : Int, rb = rt (out1 ++ EL).length ((l.drop (m + 1)).map kv) := ⟨_, rfl⟩
     obtain ⟨ys, hys⟩ : ∃ ys, ys = out1 ++ EL ++ enc n (out1 ++ EL).length ((l.drop (m + 1)).map kv) := ⟨_, rfl⟩
     rw [← hrb, ← hys] at h13
     have HRB := aM (⟨hrb, hys⟩ : _ ∧ _)
     have H13 := aM h13
     have HEN := aM (⟨hl1, hl2⟩ : _ ∧ _)
     clear hrb hys
     clear h13 hC2 henl hl1 hl2
     go_upto_region 14 with (go_at_call 79; go_loud ((with_reducible refine H13.out.mono ?_); rintro e w5 ⟨v5, rfl, ho, hb⟩; have HO5 := aM ho; have HB5 := aM hb; clear ho hb))
     have hyl : out.length < ys.length := by rw [HRB.out.2, HE1.out.1]; simp
     obtain ⟨g, cap, ev5, gb, gl, cells, HG⟩ := Kd.R_form HO5.out (by omega)
     subst ev5
     have HGB := aM gb
     obtain ⟨hx2, hf2, hR2⟩ := put2 HO5.out out.length hyl ra
     obtain ⟨hx3, hf3, hR3⟩ := put3 hR2 out.length hyl rb
     have HR3 := aM hR3
     have hyl2 : (out.length : Int) < (ys.length : Int) := by omega
     have hob : (out.length : Int) ≤ 1048576 := by have := HSZ.out; omega
     clear hR2 hR3 HG gl gb cells hyl
     go_wp2
     go_ret2
     have ert : rt out.length (l.map kv) = (out.length : Int) := rt_pos _ _ (by rw [List.length_map]; have := HL.out.2.2.2; omega)
     refine ⟨.slice (some ⟨g, 0, none⟩) ys.length cap, ?_, ?_, ?_⟩
     ·
      rw [ert]
      rfl
     ·
      have h9 : Kd.R k71 71 _ lo (fun _ => True) _ (put23 ys out.length ra rb) := HR3.out
      rw [final_list x.f0 x.f1 ra rb out out1 ys EL n m (l.map kv) HE1.out.1 HMT.out HX.out (by rw [List.length_map]; have := HL.out.2.2.2; omega) (by rw [HRA.out.1, List.map_take, HE1.out.2]) (by rw [HRA.out.2.1, List.map_take, HE1.out.2]) HRA.out.2.2 (by rw [HRB.out.1, List.map_drop, List.length_append, HRA.out.2.2, HE1.out.2]) (by rw [HRB.out.2, List.map_drop, List.length_append, HRA.out.2.2, HE1.out.2])] at h9
      exact h9
     ·
      exact ((HB3.out.trans (HB4.out.trans HB5.out)).setCell HGB.out _).setCell HGB.out _
end Go.Proofs.Ytjknkeipginpcaa.BuI
end

section
namespace Go.Proofs.Ytjknkeipginpcaa.BuS
set_option linter.unusedVariables false
set_option linter.unusedSimpArgs false
open Go.RowKit Go.Proofs.Ytjknkeipginpcaa.PQ Go.Proofs.YtjknkeipginpcaaW.PrintWords Go.Proofs.YtjknkeipginpcaaW.PrintLast Go.Proofs.YtjknkeipginpcaaW.PrintMore Go.Proofs.Ytjknkeipginpcaa.Pre Go.Proofs.Ytjknkeipginpcaa.Tr
def kv (x : S74) : KV := (x.f0, x.f1)
theorem kv_key (l : List S74) (i : Nat) (hi : i < l.length) : ((l.map kv).getD i zKV).1 = (rd_T74 l (i : Int)).f0 ∧ ((l.map kv).getD i zKV).2 = (rd_T74 l (i : Int)).f1 := by
 unfold rd_T74
 simp [hi, kv]
theorem rdE_nat (l : List S74) (i : Nat) (w : World) (A : Option Addr) (h : Kd.C k74 w A l.length l) (hi : i < l.length) : ∃ ad, A = some ad ∧ w.cell? (ad.add (i * 2)) = some (.string (rd_T74 l (i : Int)).f0) ∧ w.cell? ⟨(ad.add (i * 2)).block, (ad.add (i * 2)).off + 1, none⟩ = some (.string (rd_T74 l (i : Int)).f1) := by
 obtain ⟨ad, e, h1, h2⟩ := at_T74 h (i : Int) (by omega) (by omega)
 rw [Int.toNat_natCast] at h1 h2
 exact ⟨ad, e, h1, h2⟩

set_option maxHeartbeats 4000000 in
set_option maxRecDepth 100000 in
theorem calls : ∀ (n : Nat) (l : List S74) (A1 : Option Addr) (c1 : Nat) (v : Value) (out : List S71) (w0 w : World) (lo : Nat), l.length ≤ n → Kd.C k74 w0 A1 l.length l → l.length ≤ c1 → Below w0.heap.size w0 w → w0.heap.size ≤ lo → lo ≤ w.heap.size → Kd.R k71 71 w lo (fun _ => True) v out → out.length + l.length ≤ 1048576 → (∀ i : Nat, i < l.length → (rd_T74 l (i : Int)).f0.size ≤ 1048576) →
  Calls Try.prog 78 #[.slice A1 l.length c1, v] w fun e w' => ∃ v' : Value, e = .returned (.tuple #[.int .i64 (rt out.length (l.map kv)), v']) ∧ Kd.R k71 71 w' lo (fun _ => True) v' (out ++ enc n out.length (l.map kv)) ∧ Below lo w w' := by
 intro n
 induction n with
 | zero =>
  intro l A1 c1 v out w0 w lo hn hC hc1 hB0 hlo hlow hR hsz hks
  obtain rfl : l = [] := List.eq_nil_of_length_eq_zero (by omega)
  have HR := aM hR
  clear hR hC hB0
  go_enter Try.func78, Try.ntmps78
  go_wp2
  go_ret2
  exact ⟨_, rfl, by rw [show enc 0 out.length (([] : List S74).map kv) = [] from rfl, List.append_nil]; exact HR.out, Below.refl _ _⟩
 | succ n ih =>
  intro l A1 c1 v out w0 w lo hn hC hc1 hB0 hlo hlow hR hsz hks
  obtain ⟨Ao, co, ev, hco, _⟩ := Kd.R_reads hR
  subst ev
  have HR := aM hR
  by_cases hz : l.length = 0
  ·
   obtain rfl : l = [] := List.eq_nil_of_length_eq_zero hz
   clear hR hC hB0 ih
   go_enter Try.func78, Try.ntmps78
   go_wp2
   go_ret2
   exact ⟨_, rfl, by rw [show enc (n + 1) out.length (([] : List S74).map kv) = [] from rfl, List.append_nil]; exact HR.out, Below.refl _ _⟩
  ·
   have HC := aM hC
   have HC1 := aM hc1
   have HB0 := aM hB0
   have HL := aM (⟨hlo, hlow, hn, by omega⟩ : w0.heap.size ≤ lo ∧ lo ≤ w.heap.size ∧ l.length ≤ n + 1 ∧ 0 < l.length)
   have HSZ := aM hsz
   have HKS := aM hks
   have HIH := aM ih
   have hz2 : ((l.length : Int) == 0) = false := by rw [beq_eq_false_iff_ne]; omega
   have hz3 : ¬ (l.length : Int) = 0 := by omega
   have hlb : (l.length : Int) ≤ 1048576 := by omega
   clear hR hC hc1 hB0 hlo hlow hn hsz hks ih hz
   go_enter Try.func78, Try.ntmps78
   go_wp2
   go_loopg [6, 17] l.length (fun kq v6 v17 w' => ∃ i : Nat, v6 = .int .i64 ((topF (l.map kv) i : Nat) : Int) ∧ v17 = .int .i64 (i : Int) ∧ i ≤ l.length ∧ kq = l.length - i ∧ ∃ q, w' = w.drewN q)
   case atStart => exact ⟨0, rfl, rfl, Nat.zero_le _, rfl, 0, rfl⟩
   case round =>
    obtain ⟨i, rfl, rfl, hi, hk, q, hw⟩ := hrel
    have HW := aM hw
    have htl := topF_lt (l.map kv) (by rw [List.length_map]; exact HL.out.2.2.2) i (by rw [List.length_map]; exact hi)
    rw [List.length_map] at htl
    have HCw := aM (Kd.C_below HC.out HB0.out)
    by_cases hlt : i < l.length
    ·
     obtain ⟨tp, htp⟩ : ∃ tp, tp = topF (l.map kv) i := ⟨_, rfl⟩
     rw [← htp] at htl ⊢
     obtain ⟨ad, e, h1, _⟩ := rdE_nat l i w A1 HCw.out hlt
     subst e
     obtain ⟨ad', e, h2, _⟩ := rdE_nat l tp w (some ad) HCw.out htl
     cases e
     have h1' : wr.cell? (ad.add (i * 2)) = some (.string (rd_T74 l (i : Int)).f0) := by rw [hw]; exact h1
     have h2' : wr.cell? (ad.add (tp * 2)) = some (.string (rd_T74 l (tp : Int)).f0) := by rw [hw]; exact h2
     clear hw
     have hstep : topF (l.map kv) (i + 1) = if hvy (rd_T74 l (i : Int)).f0 (rd_T74 l (tp : Int)).f0 = true then i else tp := by
      show (if hvy ((l.map kv).getD i zKV).1 ((l.map kv).getD (topF (l.map kv) i) zKV).1 = true then i else topF (l.map kv) i) = _
      rw [← htp, (kv_key l i hlt).1, (kv_key l tp htl).1]
     have HST := aM hstep
     have hsi := HKS.out i hlt
     have hst := HKS.out tp htl
     have HV := fun W => heavS (rd_T74 l (i : Int)).f0 (rd_T74 l (tp : Int)).f0 hsi hst W
     generalize (rd_T74 l (i : Int)).f0 = ka at *
     generalize (rd_T74 l (tp : Int)).f0 = kb at *
     have hi2 : (i : Int) < (l.length : Int) := by omega
     have ht2 : (tp : Int) < (l.length : Int) := by omega
     clear h1 h2 hstep hsi hst htp
     cases hb : hvy ka kb with
     | true =>
      rw [hb] at HV
      have HHV := aM HV
      clear HV
      go_wp2
      go_quiet ((go_at_call 88; exact Calls.quiet_of (HHV.out _)))
      go_wp2
      go_roundg (l.length - (i + 1))
      case measure => omega
      case rel => exact ⟨i + 1, by rw [HST.out, if_pos hb], by go_num, by omega, rfl, q + nq, by rw [HW.out, World.drewN_drewN]⟩
     | false =>
      rw [hb] at HV
      have HHV := aM HV
      clear HV
      go_wp2
      go_quiet ((go_at_call 88; exact Calls.quiet_of (HHV.out _)))
      go_wp2
      go_roundg (l.length - (i + 1))
      case measure => omega
      case rel => exact ⟨i + 1, by rw [HST.out, if_neg (by rw [hb]; decide)], by go_num, by omega, rfl, q + nq, by rw [HW.out, World.drewN_drewN]⟩
    ·
     obtain rfl : i = l.length := by omega
     obtain ⟨m, hm⟩ : ∃ m, m = topF (l.map kv) l.length := ⟨_, rfl⟩
     rw [← hm] at htl ⊢
     have HMT := aM (show m = top (l.map kv) by rw [hm]; unfold top; rw [List.length_map])
     obtain ⟨x, hx⟩ : ∃ x, x = rd_T74 l (m : Int) := ⟨_, rfl⟩
     obtain ⟨ad, e, h1, h2⟩ := rdE_nat l m w0 A1 HC.out htl
     subst e
     rw [← hx] at h1 h2
     have HX := aM (show ((l.map kv).getD m zKV).1 = x.f0 ∧ ((l.map kv).getD m zKV).2 = x.f1 by rw [hx]; exact kv_key l m htl)
     have HH := aM (fun (W : World) (hb : Below w0.heap.size w0 W) => (⟨(hb.cell (World.block_lt_of_cell? w0 _ h1)).trans h1, (hb.cell (World.block_lt_of_cell? w0 _ h2)).trans h2⟩ : W.cell? (ad.add (m * 2)) = some (.string x.f0) ∧ W.cell? ⟨(ad.add (m * 2)).block, (ad.add (m * 2)).off + 1, none⟩ = some (.string x.f1)))
     have HBW := aM (show Below w0.heap.size w0 wr by rw [hw]; exact pw_below_drewN HB0.out q)
     have HBl1 := aM (show Below lo w wr by rw [hw]; exact pw_below_drewN (Below.refl _ _) q)
     have HO1 := aM (show Kd.R k71 71 wr lo (fun _ => True) (.slice Ao out.length co) out by rw [hw]; exact Kd.R_drewN HR.out q)
     have HLo1 := aM (show lo ≤ wr.heap.size by rw [hw]; exact HL.out.2.1)
     have hml : (m : Int) < (l.length : Int) := by omega
     have HM := aM htl
     clear hm hx h1 h2 hw HW htl
     go_upto_region 11 with (fail)
     refine start_ (n := 15) (S := fun w' => w'.cell? (ad.add (m * 2)) = some (.string x.f0) ∧ w'.cell? ⟨(ad.add (m * 2)).block, (ad.add (m * 2)).off + 1, none⟩ = some (.string x.f1)) (ds := []) #[false, false, false, false, false, false, false, false, false, false, false, false, false, false, false] (by kernel_rfl) rfl rfl ⟨(HH.out wr.drew HBW.out.drew).1, (HH.out wr.drew HBW.out.drew).2⟩ (fun hHeld => ?_)
     refine pure_ (i := 0) (N := some 35) (v := ?_) (a' := ?_) #[true, false, false, false, false, false, false, false, false, false, false, false, false, false, false] rfl rfl (by kernel_rfl) (fun _ _ _ h => h) (Or.inl ⟨by rfl, ?_⟩) ?_ ?_
     rotate_left
     ·
      intro w'
      go_simp
      with_reducible rfl
     rotate_left
     ·
      simp only [Act.put, zSA, zSB, zSC, i64_w, i32_w]
      rfl
     refine pure_ (i := 1) (N := some 36) (v := ?_) (a' := ?_) #[true, true, false, false, false, false, false, false, false, false, false, false, false, false, false] rfl rfl (by kernel_rfl) (fun _ _ _ h => h) (Or.inl ⟨by rfl, ?_⟩) ?_ ?_
     rotate_left
     ·
      intro w'
      go_simp
      with_reducible rfl
     rotate_left
     ·
      simp only [Act.put, zSA, zSB, zSC, i64_w, i32_w]
      rfl
     refine pure_ (i := 2) (N := some 37) (v := ?_) (a' := ?_) #[true, true, true, false, false, false, false, false, false, false, false, false, false, false, false] rfl rfl (by kernel_rfl) (fun _ _ _ h => h) (Or.inl ⟨by rfl, ?_⟩) ?_ ?_
     rotate_left
     ·
      intro w'
      go_simp
      with_reducible rfl
     rotate_left
     ·
      simp only [Act.put, zSA, zSB, zSC, i64_w, i32_w]
      rfl
     refine pure_ (i := 3) (N := some 38) (v := ?_) (a' := ?_) #[true, true, true, true, false, false, false, false, false, false, false, false, false, false, false] rfl rfl (by kernel_rfl) (fun _ _ _ h => h) (Or.inl ⟨by rfl, ?_⟩) ?_ ?_
     rotate_left
     ·
      intro w'
      go_simp
      with_reducible rfl
     rotate_left
     ·
      simp only [Act.put, zSA, zSB, zSC, i64_w, i32_w]
      rfl
     refine pure_ (i := 4) (N := some 39) (v := ?_) (a' := ?_) #[true, true, true, true, true, false, false, false, false, false, false, false, false, false, false] rfl rfl (by kernel_rfl) (fun _ _ _ h => h) (Or.inl ⟨by rfl, ?_⟩) ?_ ?_
     rotate_left
     ·
      intro w'
      go_simp
      with_reducible rfl
     rotate_left
     ·
      simp only [Act.put, zSA, zSB, zSC, i64_w, i32_w]
      rfl
     refine pure_ (i := 6) (N := some 41) (v := ?_) (a' := ?_) #[true, true, true, true, true, false, true, false, false, false, false, false, false, false, false] rfl rfl (by kernel_rfl) (fun _ _ _ h => h) (Or.inl ⟨by rfl, ?_⟩) ?_ ?_
     rotate_left
     ·
      intro w'
      go_simp
      with_reducible rfl
     rotate_left
     ·
      simp only [Act.put, zSA, zSB, zSC, i64_w, i32_w]
      rfl
     refine pure_ (i := 7) (N := some 42) (v := ?_) (a' := ?_) #[true, true, true, true, true, false, true, true, false, false, false, false, false, false, false] rfl rfl (by kernel_rfl) (fun _ _ _ h => h) (Or.inl ⟨by rfl, ?_⟩) ?_ ?_
     rotate_left
     ·
      intro w'
      go_simp
      with_reducible rfl
     rotate_left
     ·
      simp only [Act.put, zSA, zSB, zSC, i64_w, i32_w]
      rfl
     refine pure_ (i := 8) (N := some 43) (v := ?_) (a' := ?_) #[true, true, true, true, true, false, true, true, true, false, false, false, false, false, false] rfl rfl (by kernel_rfl) (fun _ _ _ h => h) (Or.inl ⟨by rfl, ?_⟩) ?_ ?_
     rotate_left
     ·
      intro w'
      go_simp
      with_reducible rfl
     rotate_left
     ·
      simp only [Act.put, zSA, zSB, zSC, i64_w, i32_w]
      rfl
     refine pure_ (i := 9) (N := some 44) (v := ?_) (a' := ?_) #[true, true, true, true, true, false, true, true, true, true, false, false, false, false, false] rfl rfl (by kernel_rfl) (fun _ _ _ h => h) (Or.inl ⟨by rfl, ?_⟩) ?_ ?_
     rotate_left
     ·
      intro w'
      go_simp
      with_reducible rfl
     rotate_left
     ·
      simp only [Act.put, zSA, zSB, zSC, i64_w, i32_w]
      rfl
     refine take_ (i := 5) (N := some 40) (v := ?_) (a' := ?_) #[true, true, true, true, true, true, true, true, true, true, false, false, false, false, false] rfl rfl (by kernel_rfl) (fun _ _ _ h => h) (Or.inl ⟨by rfl, ?_⟩) hHeld ?_ ?_
     rotate_left
     ·
      rintro w' ⟨s0, s1⟩
      go_simp
      with_reducible rfl
     rotate_left
     ·
      simp only [Act.put, zSA, zSB, zSC, i64_w, i32_w]
      rfl
     refine take_ (i := 10) (N := some 45) (v := ?_) (a' := ?_) #[true, true, true, true, true, true, true, true, true, true, true, false, false, false, false] rfl rfl (by kernel_rfl) (fun _ _ _ h => h) (Or.inl ⟨by rfl, ?_⟩) hHeld ?_ ?_
     rotate_left
     ·
      rintro w' ⟨s0, s1⟩
      go_simp
      with_reducible rfl
     rotate_left
     ·
      simp only [Act.put, zSA, zSB, zSC, i64_w, i32_w]
      rfl
     refine pure_ (i := 11) (N := some 46) (v := ?_) (a' := ?_) #[true, true, true, true, true, true, true, true, true, true, true, true, false, false, false] rfl rfl (by kernel_rfl) (fun _ _ _ h => h) (Or.inl ⟨by rfl, ?_⟩) ?_ ?_
     rotate_left
     ·
      intro w'
      go_simp
      with_reducible rfl
     rotate_left
     ·
      simp only [Act.put, zSA, zSB, zSC, i64_w, i32_w]
      rfl
     refine one_ (i := 12) (N := some 47) #[true, true, true, true, true, true, true, true, true, true, true, true, true, false, false] rfl rfl (by kernel_rfl) (by decide) (fun K hK => ?_)
     refine value_ (w1 := ?_) (v := ?_) (by rfl) rfl ?_ ?_
     rotate_left 2
     ·
      go_simp
      constructor
      ·
       rfl
      ·
       rfl
     refine hK.out _ _ ⟨(HH.out _ (below_alloc HBW.out.drew _)).1, (HH.out _ (below_alloc HBW.out.drew _)).2⟩ (fun hHeld => ?_)
     clear hK K
     refine norm_ (a' := ?_) ?_ ?_
     rotate_left
     ·
      show Act.put _ (some 47) _ = _
      simp only [Act.put, zSA, zSB, zSC, i64_w, i32_w]
      rfl
     refine one_ (i := 13) (N := some 48) #[true, true, true, true, true, true, true, true, true, true, true, true, true, true, false] rfl rfl (by kernel_rfl) (by decide) (fun K hK => ?_)
     refine Kd.R_append_step k71 (w0 := w) lo (by rfl) (.tmp 35) (.tmp 47) 27 71 (.agg #[(.string ⟨#[]⟩), (.string ⟨#[]⟩), (.int .i64 0), (.int .i64 0)]) 48 rfl Try.underlying27 info71 rfl (by decide) (by omega) (.slice Ao out.length co) out (⟨x.f0, x.f1, 0, 0⟩ : S71) _ (fun _ => True) (fun _ => False) rfl rfl (k71_mkM _ _ _ _) (fun _ h => h.elim) (fun _ _ => trivial) (Kd.R_drew HO1.out) (HBl1.out).drew HLo1.out (by have := HSZ.out; omega) ?_
     intro v1 w3 ho1 hb1 hg1 hat1
     have HO3 := aM ho1
     have HB3 := aM hb1
     clear hat1 hg1 ho1 hb1
     refine hK.out _ _ ⟨(HH.out w3 (HB0.out.trans (HB3.out.mono HL.out.1))).1, (HH.out w3 (HB0.out.trans (HB3.out.mono HL.out.1))).2⟩ (fun hHeld => ?_)
     clear hK K
     refine norm_ (a' := ?_) ?_ ?_
     rotate_left
     ·
      show Act.put _ (some 48) _ = _
      simp only [Act.put, zSA, zSB, zSC, i64_w, i32_w]
      rfl
     refine pure_ (i := 14) (N := some 1) (v := ?_) (a' := ?_) #[true, true, true, true, true, true, true, true, true, true, true, true, true, true, true] rfl rfl (by kernel_rfl) (fun _ _ _ h => h) (Or.inl ⟨by rfl, ?_⟩) ?_ ?_
     rotate_left
     ·
      intro w'
      go_simp
      with_reducible rfl
     rotate_left
     ·
      simp only [Act.put, zSA, zSB, zSC, i64_w, i32_w]
      rfl
     refine done_ (by kernel_rfl) ?_
     have hmn : m < l.length := HM.out
     obtain ⟨out1, he1⟩ : ∃ o, o = out ++ [(⟨x.f0, x.f1, 0, 0⟩ : S71)] := ⟨_, rfl⟩
     rw [← he1] at HO3
     have ho1 : out1.length = out.length + 1 := by rw [he1]; simp
     have HE1 := aM (⟨he1, ho1⟩ : _ ∧ _)
     clear he1
     obtain ⟨i0, hinfo, _, hsz0, _⟩ := info_parts info74
     have hcut1 := cut_to (P := Try.prog) 62 74 .i64 Try.underlying62 hinfo (some ad) l.length c1 (m : Int) (by omega) (by omega) HC1.out
     have hcut2 := cut_from (P := Try.prog) 62 74 .i64 Try.underlying62 hinfo 2 hsz0 (some ad) l.length c1 ((m : Int) + 1) (by omega) (by omega)
     have etn : ((m : Int) + 1).toNat = m + 1 := by omega
     rw [Int.toNat_natCast] at hcut1
     rw [etn] at hcut2
     have hC1 := Kd.C_take (m := m) HC.out (by omega)
     have hC2 := Kd.C_drop (m := m + 1) HC.out (by omega) HC1.out
     have hl1 : (l.take m).length = m := by rw [List.length_take]; omega
     have hl2 : (l.drop (m + 1)).length = l.length - (m + 1) := List.length_drop
     have HL3 := aM (show lo ≤ w3.heap.size from Nat.le_trans HL.out.2.1 HB3.out.size)
     have h12 := HIH.out (l.take m) (some ad) c1 v1 out1 w0 w3 lo (by have := HL.out; omega) hC1 (by have := HC1.out; omega) (HB0.out.trans (HB3.out.mono HL.out.1)) HL.out.1 HL3.out HO3.out (by rw [hl1]; have := HSZ.out; omega) (fun i hi => by
      have h9 := HKS.out i (by omega)
      unfold rd_T74 at h9 ⊢
      rw [Int.toNat_natCast] at h9 ⊢
      rw [List.getD_eq_getElem?_getD, List.getElem?_take, if_pos (by omega)]
      rw [List.getD_eq_getElem?_getD] at h9
      exact h9)
     rw [hl1] at h12
     obtain ⟨ra, hra⟩ : ∃ ra : Int, ra = rt out1.length ((l.take m).map kv) := ⟨_, rfl⟩
     obtain ⟨EL, hEL⟩ : ∃ EL, EL = enc n out1.length ((l.take m).map kv) := ⟨_, rfl⟩
     rw [← hra, ← hEL] at h12
     have henl : EL.length = m := by
      rw [hEL, enc_len n _ _ (by rw [List.length_map]; have := HL.out; omega), List.length_map, hl1]
     have HRA := aM (⟨hra, hEL, henl⟩ : _ ∧ _ ∧ _)
     have H12 := aM h12
     clear hra hEL henl
     obtain ⟨A2, hA2⟩ : ∃ A2 : Option Addr, A2 = (if c1 = m + 1 then some ad else Option.map (fun a => a.add ((m + 1) * 2)) (some ad)) := ⟨_, rfl⟩
     have hC2' : Kd.C k74 w0 A2 (l.drop (m + 1)).length (l.drop (m + 1)) := by rw [hA2]; exact hC2
     have hcut2' : ∀ W : World, (Instr.slice 62 (.slice (some ad) l.length c1) (some (.int .i64 ((m : Int) + 1))) none none).run Try.prog W = .ok (.slice A2 (l.length - (m + 1)) (c1 - (m + 1))) W := by rw [hA2]; exact hcut2
     have HCT := aM (⟨hcut2', hC2', hl1, hl2⟩ : _ ∧ _ ∧ _ ∧ _)
     clear ho1 h12 hC1 hC2 hinfo hsz0 etn hcut2 hl1 hl2 hA2 hC2' hcut2'
     go_upto_region 13 with (go_at_call 78; go_loud ((with_reducible refine H12.out.mono ?_); rintro e w4 ⟨v4, rfl, ho, hb⟩; have HO4 := aM ho; have HB4 := aM hb; clear ho hb))
     obtain ⟨hcut2, hC2, hl1, hl2⟩ := HCT.out
     have henl := HRA.out.2.2
     have HL4 := aM (show lo ≤ w4.heap.size from Nat.le_trans HL3.out HB4.out.size)
     have HBL4 := aM (HB3.out.trans HB4.out)
     have h13 := HIH.out (l.drop (m + 1)) A2 (c1 - (m + 1)) v4 _ w0 w4 lo (by have := HL.out; omega) hC2 (by have := HC1.out; omega) (HB0.out.trans (HBL4.out.mono HL.out.1)) HL.out.1 HL4.out HO4.out (by rw [List.length_append, henl, hl2]; have := HSZ.out; have := HE1.out.2; omega) (fun i hi => by
      have h9 := HKS.out (m + 1 + i) (by omega)
      unfold rd_T74 at h9 ⊢
      rw [Int.toNat_natCast] at h9 ⊢
      rw [List.getD_eq_getElem?_getD, List.getElem?_drop]
      rw [List.getD_eq_getElem?_getD] at h9
      exact h9)
     rw [hl2] at h13
     obtain ⟨rb, hrb⟩ : ∃ rb : Int, rb = rt (out1 ++ EL).length ((l.drop (m + 1)).map kv) := ⟨_, rfl⟩
     obtain ⟨ys, hys⟩ : ∃ ys, ys = out1 ++ EL ++ enc n (out1 ++ EL).length ((l.drop (m + 1)).map kv) := ⟨_, rfl⟩
     rw [← hrb, ← hys] at h13
     have HRB := aM (⟨hrb, hys⟩ : _ ∧ _)
     have H13 := aM h13
     have HEN := aM (⟨hl1, hl2⟩ : _ ∧ _)
     clear hrb hys
     clear h13 hC2 henl hl1 hl2
     go_upto_region 14 with (go_at_call 78; go_loud ((with_reducible refine H13.out.mono ?_); rintro e w5 ⟨v5, rfl, ho, hb⟩; have HO5 := aM ho; have HB5 := aM hb; clear ho hb))
     have hyl : out.length < ys.length := by rw [HRB.out.2, HE1.out.1]; simp
     obtain ⟨g, cap, ev5, gb, gl, cells, HG⟩ := Kd.R_form HO5.out (by omega)
     subst ev5
     have HGB := aM gb
     obtain ⟨hx2, hf2, hR2⟩ := put2 HO5.out out.length hyl ra
     obtain ⟨hx3, hf3, hR3⟩ := put3 hR2 out.length hyl rb
     have HR3 := aM hR3
     have hyl2 : (out.length : Int) < (ys.length : Int) := by omega
     have hob : (out.length : Int) ≤ 1048576 := by have := HSZ.out; omega
     clear hR2 hR3 HG gl gb cells hyl
     go_wp2
     go_ret2
     have ert : rt out.length (l.map kv) = (out.length : Int) := rt_pos _ _ (by rw [List.length_map]; have := HL.out.2.2.2; omega)
     refine ⟨.slice (some ⟨g, 0, none⟩) ys.length cap, ?_, ?_, ?_⟩
     ·
      rw [ert]
      rfl
     ·
      have h9 : Kd.R k71 71 _ lo (fun _ => True) _ (put23 ys out.length ra rb) := HR3.out
      rw [final_list x.f0 x.f1 ra rb out out1 ys EL n m (l.map kv) HE1.out.1 HMT.out HX.out (by rw [List.length_map]; have := HL.out.2.2.2; omega) (by rw [HRA.out.1, List.map_take, HE1.out.2]) (by rw [HRA.out.2.1, List.map_take, HE1.out.2]) HRA.out.2.2 (by rw [HRB.out.1, List.map_drop, List.length_append, HRA.out.2.2, HE1.out.2]) (by rw [HRB.out.2, List.map_drop, List.length_append, HRA.out.2.2, HE1.out.2])] at h9
      exact h9
     ·
      exact ((HB3.out.trans (HB4.out.trans HB5.out)).setCell HGB.out _).setCell HGB.out _
end Go.Proofs.Ytjknkeipginpcaa.BuS
end

section
namespace Go.Proofs.Ytjknkeipginpcaa.PQ
open Go.RowKit Go.Proofs.YtjknkeipginpcaaW.PrintWords Go.Proofs.YtjknkeipginpcaaW.PrintLast Go.Proofs.YtjknkeipginpcaaW.PrintMore
attribute [local go_sem] max2_int min2_int max_two min_two max_three min_three max_four min_four
set_option linter.unusedVariables false
set_option linter.unusedSimpArgs false
attribute [local go_sem] Go.Proofs.Ytjknkeipginpcaa.StrO.leq_s Go.Proofs.Ytjknkeipginpcaa.StrO.gtr_s Go.Proofs.Ytjknkeipginpcaa.StrO.geq_s
def spec_l7At.l0 : Nat → List (S74) → ByteArray → Int → Option (Int × Bool)
 | 0, _, _, _ => none
 | k + 1, x0, x1, x6 => if x6 < (x0.length : Int) then (if 0 ≤ x6 then (if (Op.bytesLess (((rd_T74 x0 x6).f0).toList) x1.toList) = true then (spec_l7At.l0 k x0 x1 (wrap64 (x6 + 1))) else (some (x6, (((rd_T74 x0 x6).f0).toList == x1.toList)))) else (none)) else (some (x6, false))
def spec_l7At.f (k : Nat) (l0 : List (S74)) (a1 : ByteArray) : Option (Int × Bool) := spec_l7At.l0 k l0 a1 0
set_option maxHeartbeats 8000000 in
set_option maxRecDepth 100000 in
theorem spec_l7At.calls (k : Nat) (A0 : Option Addr) (c0 : Nat) (l0 : List (S74)) (a1 : ByteArray) (r1 : Int) (r2 : Bool) (w : World) (hr0 : Kd.C k74 w A0 l0.length l0) (hc0 : l0.length ≤ c0) (h : spec_l7At.f k l0 a1 = some (r1, r2)) :
  Calls Try.prog 60 #[.slice A0 l0.length c0, .string a1] w fun e w' => e = .returned (.tuple #[.int .i64 r1, .bool r2]) ∧ Drawn0 w w' := by
 have HR0 := aM hr0
 have HC0 := aM hc0
 clear hr0 hc0
 have H : (spec_l7At.l0 k l0 a1 0) = some (r1, r2) := h
 clear h
 have H' := aM H
 clear H
 go_enter Try.func60, Try.ntmps60
 go_wp2
 repeat (go_quiet (fail); try go_wp2)
 go_loopg [6] k (fun kq v6 w' => ∃ (x6_1 : Int), v6 = .int .i64 x6_1 ∧ Aside0 (spec_l7At.l0 kq l0 a1 x6_1 = some (r1, r2)) ∧ Aside0 (kq ≤ k) ∧ Drawn0 w w')
 case atStart => exact ⟨(0), (by first | rfl | (simp; done) | (simp [*]; done)), H', ⟨Nat.le_refl _⟩, by repeat (first | exact Drawn0.refl _ | apply Drawn0.step)⟩
 case round =>
  clear H'
  try clear p2
  obtain ⟨x6_1, rfl, HA, HK1, ⟨m1, rfl⟩⟩ := hrel
  cases gk with
  | zero => exact absurd HA.out (by simp [spec_l7At.l0])
  | succ k1 =>
   have H := HA.out
   clear HA
   simp only [spec_l7At.l0] at H
   by_cases c3 : x6_1 < (l0.length : Int)
   ·
    rw [if_pos c3] at H
    have c3b0 : decide (x6_1 < (l0.length : Int)) = true := decide_eq_true c3
    clear c3
    by_cases c4 : 0 ≤ x6_1
    ·
     rw [if_pos c4] at H
     have c4b0 : decide (0 ≤ x6_1) = true := decide_eq_true c4
     clear c4
     by_cases c5 : (Op.bytesLess (((rd_T74 l0 x6_1).f0).toList) a1.toList) = true
     ·
      rw [if_pos c5] at H
      have c5b0 : (Op.bytesLess (((rd_T74 l0 x6_1).f0).toList) a1.toList) = true := c5
      clear c5
      have H' := aM H
      clear H
      have p283 : 0 ≤ (x6_1 : Int) := of_decide_eq_true (by first | (with_reducible assumption) | assumption)
      have q283 : x6_1 < (l0.length : Int) := of_decide_eq_true (by first | (with_reducible assumption) | assumption)
      obtain ⟨ad283, e283, hx283_0, hx283_1⟩ := at_T74 HR0.out x6_1 p283 q283
      cases e283
      try have hz_hx283_0 := aM hx283_0
      try have hz_hx283_1 := aM hx283_1
      replace p283 := eq_true p283
      replace q283 := eq_true q283
      go_wp2
      repeat (go_quiet (fail); try go_wp2)
      go_roundg k1
      case measure => have := HK1.out; omega
      case rel => exact ⟨(wrap64 (x6_1 + 1)), (by first | rfl | (simp; done) | (simp [*]; done)), H', ⟨by have := HK1.out; omega⟩, by repeat (first | exact Drawn0.refl _ | apply Drawn0.step)⟩
     ·
      rw [if_neg c5] at H
      have c5b0 : (Op.bytesLess (((rd_T74 l0 x6_1).f0).toList) a1.toList) = false := by simpa using c5
      clear c5
      simp only [Option.some.injEq, Prod.mk.injEq] at H
      obtain ⟨rfl, rfl⟩ := H
      have p283 : 0 ≤ (x6_1 : Int) := of_decide_eq_true (by first | (with_reducible assumption) | assumption)
      have q283 : x6_1 < (l0.length : Int) := of_decide_eq_true (by first | (with_reducible assumption) | assumption)
      obtain ⟨ad283, e283, hx283_0, hx283_1⟩ := at_T74 HR0.out x6_1 p283 q283
      cases e283
      try have hz_hx283_0 := aM hx283_0
      try have hz_hx283_1 := aM hx283_1
      replace p283 := eq_true p283
      replace q283 := eq_true q283
      have p284 : 0 ≤ (x6_1 : Int) := of_decide_eq_true (by first | (with_reducible assumption) | assumption)
      have q284 : x6_1 < (l0.length : Int) := of_decide_eq_true (by first | (with_reducible assumption) | assumption)
      obtain ⟨ad284, e284, hx284_0, hx284_1⟩ := at_T74 HR0.out x6_1 p284 q284
      obtain rfl : ad283 = ad284 := (by injection e284)
      try have hz_hx284_0 := aM hx284_0
      try have hz_hx284_1 := aM hx284_1
      try (have q_ := hx284_0.symm.trans hz_hx283_0.out; injection q_ with q_; injection q_ with q1_ q2_ q3_; subst q1_; subst q3_)
      try (have q_ := hx284_1.symm.trans hz_hx283_1.out; injection q_ with q_; injection q_ with q1_ q2_ q3_; subst q1_; subst q3_)
      replace p284 := eq_true p284
      replace q284 := eq_true q284
      go_wp2
      repeat (go_quiet (fail); try go_wp2)
      go_ret2
      exact ⟨by first | rfl | (simp; done) | (simp [*]; done), by repeat (first | exact Drawn0.refl _ | apply Drawn0.step)⟩
    ·
     rw [if_neg c4] at H
     exact absurd H (by simp)
   ·
    rw [if_neg c3] at H
    have c3b0 : decide (x6_1 < (l0.length : Int)) = false := decide_eq_false c3
    clear c3
    simp only [Option.some.injEq, Prod.mk.injEq] at H
    obtain ⟨rfl, rfl⟩ := H
    go_wp2
    repeat (go_quiet (fail); try go_wp2)
    go_ret2
    exact ⟨by first | rfl | (simp; done) | (simp [*]; done), by repeat (first | exact Drawn0.refl _ | apply Drawn0.step)⟩

end Go.Proofs.Ytjknkeipginpcaa.PQ
end

section
namespace Go.Proofs.Ytjknkeipginpcaa.PQ
open Go.RowKit Go.Proofs.YtjknkeipginpcaaW.PrintWords Go.Proofs.YtjknkeipginpcaaW.PrintLast Go.Proofs.YtjknkeipginpcaaW.PrintMore
attribute [local go_sem] max2_int min2_int max_two min_two max_three min_three max_four min_four
set_option linter.unusedVariables false
set_option linter.unusedSimpArgs false
def spec_l7Put.f (k : Nat) (l0 : List (S74)) (a1_0 : ByteArray) (a1_1 : ByteArray) : Option ((List (S74))) := (spec_l7At.f k l0 a1_0).bind fun bt286 => (if 0 ≤ bt286.1 then (if bt286.1 ≤ (l0.length : Int) then ((some (l0.take (bt286.1 : Int).toNat : List (S74))).bind fun y288 => (if ([] : List (S74)).length + y288.length < 4398046511104 then ((some (([] : List (S74)) ++ y288 : List (S74))).bind fun y292 => (if y292.length < 4398046511104 then ((some (y292 ++ [(⟨a1_0, a1_1⟩ : S74)] : List (S74))).bind fun y295 => (if bt286.2 = true then (if 0 ≤ (wrap64 (bt286.1 + 1)) then (if (wrap64 (bt286.1 + 1)) ≤ (l0.length : Int) then ((some (l0.drop ((wrap64 (bt286.1 + 1)) : Int).toNat : List (S74))).bind fun y298 => (if y295.length + y298.length < 4398046511104 then (some (y295 ++ y298)) else (none))) else (none)) else (none)) else ((some (l0.drop (bt286.1 : Int).toNat : List (S74))).bind fun y305 => (if y295.length + y305.length < 4398046511104 then (some (y295 ++ y305)) else (none))))) else (none))) else (none))) else (none)) else (none))
set_option maxHeartbeats 8000000 in
set_option maxRecDepth 100000 in
theorem spec_l7Put.calls (k : Nat) (A0 : Option Addr) (c0 : Nat) (l0 : List (S74)) (a1_0 : ByteArray) (a1_1 : ByteArray) (r : List (S74)) (w : World) (hr0 : Kd.C k74 w A0 l0.length l0) (hc0 : l0.length ≤ c0) (h : spec_l7Put.f k l0 a1_0 a1_1 = some r) :
  Calls Try.prog 69 #[.slice A0 l0.length c0, .agg #[.string a1_0, .string a1_1]] w fun e w' => ∃ v0_ : Value, e = .returned (v0_) ∧ Kd.R k74 74 w' w.heap.size (fun _ => True) v0_ r ∧ Below w.heap.size w w' := by
 have hu74 := Try.underlying74
 have HR0 := aM hr0
 have HC0 := aM hc0
 clear hr0 hc0
 have HB := aM (Below.refl w.heap.size w)
 have H : ((spec_l7At.f k l0 a1_0).bind fun bt286 => (if 0 ≤ bt286.1 then (if bt286.1 ≤ (l0.length : Int) then ((some (l0.take (bt286.1 : Int).toNat : List (S74))).bind fun y288 => (if ([] : List (S74)).length + y288.length < 4398046511104 then ((some (([] : List (S74)) ++ y288 : List (S74))).bind fun y292 => (if y292.length < 4398046511104 then ((some (y292 ++ [(⟨a1_0, a1_1⟩ : S74)] : List (S74))).bind fun y295 => (if bt286.2 = true then (if 0 ≤ (wrap64 (bt286.1 + 1)) then (if (wrap64 (bt286.1 + 1)) ≤ (l0.length : Int) then ((some (l0.drop ((wrap64 (bt286.1 + 1)) : Int).toNat : List (S74))).bind fun y298 => (if y295.length + y298.length < 4398046511104 then (some (y295 ++ y298)) else (none))) else (none)) else (none)) else ((some (l0.drop (bt286.1 : Int).toNat : List (S74))).bind fun y305 => (if y295.length + y305.length < 4398046511104 then (some (y295 ++ y305)) else (none))))) else (none))) else (none))) else (none)) else (none))) = some r := h
 clear h
 replace H := Option.bind_eq_some_iff.mp H
 obtain ⟨⟨t286, t287⟩, A30, H⟩ := H
 replace H : (if 0 ≤ t286 then (if t286 ≤ (l0.length : Int) then ((some (l0.take (t286 : Int).toNat : List (S74))).bind fun y288 => (if ([] : List (S74)).length + y288.length < 4398046511104 then ((some (([] : List (S74)) ++ y288 : List (S74))).bind fun y292 => (if y292.length < 4398046511104 then ((some (y292 ++ [(⟨a1_0, a1_1⟩ : S74)] : List (S74))).bind fun y295 => (if t287 = true then (if 0 ≤ (wrap64 (t286 + 1)) then (if (wrap64 (t286 + 1)) ≤ (l0.length : Int) then ((some (l0.drop ((wrap64 (t286 + 1)) : Int).toNat : List (S74))).bind fun y298 => (if y295.length + y298.length < 4398046511104 then (some (y295 ++ y298)) else (none))) else (none)) else (none)) else ((some (l0.drop (t286 : Int).toNat : List (S74))).bind fun y305 => (if y295.length + y305.length < 4398046511104 then (some (y295 ++ y305)) else (none))))) else (none))) else (none))) else (none)) else (none)) = some r := H
 have A3 := aM A30
 clear A30
 by_cases c4 : 0 ≤ t286
 ·
  rw [if_pos c4] at H
  have c4b0 := eq_true c4
  have c4b1 : decide (0 ≤ t286) = true := decide_eq_true c4
  clear c4
  by_cases c5 : t286 ≤ (l0.length : Int)
  ·
   rw [if_pos c5] at H
   have c5b0 := eq_true c5
   have c5b1 : decide (t286 ≤ (l0.length : Int)) = true := decide_eq_true c5
   clear c5
   obtain ⟨y288, hy288⟩ : ∃ y_ : List (S74), y_ = (l0.take (t286 : Int).toNat) := ⟨_, rfl⟩
   replace H : (if ([] : List (S74)).length + y288.length < 4398046511104 then ((some (([] : List (S74)) ++ y288 : List (S74))).bind fun y292 => (if y292.length < 4398046511104 then ((some (y292 ++ [(⟨a1_0, a1_1⟩ : S74)] : List (S74))).bind fun y295 => (if t287 = true then (if 0 ≤ (wrap64 (t286 + 1)) then (if (wrap64 (t286 + 1)) ≤ (l0.length : Int) then ((some (l0.drop ((wrap64 (t286 + 1)) : Int).toNat : List (S74))).bind fun y298 => (if y295.length + y298.length < 4398046511104 then (some (y295 ++ y298)) else (none))) else (none)) else (none)) else ((some (l0.drop (t286 : Int).toNat : List (S74))).bind fun y305 => (if y295.length + y305.length < 4398046511104 then (some (y295 ++ y305)) else (none))))) else (none))) else (none)) = some r := by first | (rw [hy288]; with_reducible exact H) | (have H2_ := (Option.bind_some _ _).symm.trans H; rw [hy288]; with_reducible exact H2_) | (have H2_ := (Option.bind_some _ _).symm.trans H; with_reducible exact H2_) | with_reducible exact H | (rw [hy288]; exact H) | exact H
   have Ny288 := aM hy288
   clear hy288
   by_cases c6 : ([] : List (S74)).length + y288.length < 4398046511104
   ·
    rw [if_pos c6] at H
    have LMc6 := aM c6
    clear c6
    obtain ⟨y292, hy292⟩ : ∃ y_ : List (S74), y_ = (([] : List (S74)) ++ y288) := ⟨_, rfl⟩
    replace H : (if y292.length < 4398046511104 then ((some (y292 ++ [(⟨a1_0, a1_1⟩ : S74)] : List (S74))).bind fun y295 => (if t287 = true then (if 0 ≤ (wrap64 (t286 + 1)) then (if (wrap64 (t286 + 1)) ≤ (l0.length : Int) then ((some (l0.drop ((wrap64 (t286 + 1)) : Int).toNat : List (S74))).bind fun y298 => (if y295.length + y298.length < 4398046511104 then (some (y295 ++ y298)) else (none))) else (none)) else (none)) else ((some (l0.drop (t286 : Int).toNat : List (S74))).bind fun y305 => (if y295.length + y305.length < 4398046511104 then (some (y295 ++ y305)) else (none))))) else (none)) = some r := by first | (rw [hy292]; with_reducible exact H) | (have H2_ := (Option.bind_some _ _).symm.trans H; rw [hy292]; with_reducible exact H2_) | (have H2_ := (Option.bind_some _ _).symm.trans H; with_reducible exact H2_) | with_reducible exact H | (rw [hy292]; exact H) | exact H
    have Ny292 := aM hy292
    clear hy292
    by_cases c7 : y292.length < 4398046511104
    ·
     rw [if_pos c7] at H
     have LMc7 := aM c7
     clear c7
     obtain ⟨y295, hy295⟩ : ∃ y_ : List (S74), y_ = (y292 ++ [(⟨a1_0, a1_1⟩ : S74)]) := ⟨_, rfl⟩
     replace H : (if t287 = true then (if 0 ≤ (wrap64 (t286 + 1)) then (if (wrap64 (t286 + 1)) ≤ (l0.length : Int) then ((some (l0.drop ((wrap64 (t286 + 1)) : Int).toNat : List (S74))).bind fun y298 => (if y295.length + y298.length < 4398046511104 then (some (y295 ++ y298)) else (none))) else (none)) else (none)) else ((some (l0.drop (t286 : Int).toNat : List (S74))).bind fun y305 => (if y295.length + y305.length < 4398046511104 then (some (y295 ++ y305)) else (none)))) = some r := by first | (rw [hy295]; with_reducible exact H) | (have H2_ := (Option.bind_some _ _).symm.trans H; rw [hy295]; with_reducible exact H2_) | (have H2_ := (Option.bind_some _ _).symm.trans H; with_reducible exact H2_) | with_reducible exact H | (rw [hy295]; exact H) | exact H
     have Ny295 := aM hy295
     clear hy295
     by_cases c8 : t287 = true
     ·
      subst c8
      have H1 : (if 0 ≤ (wrap64 (t286 + 1)) then (if (wrap64 (t286 + 1)) ≤ (l0.length : Int) then ((some (l0.drop ((wrap64 (t286 + 1)) : Int).toNat : List (S74))).bind fun y298 => (if y295.length + y298.length < 4398046511104 then (some (y295 ++ y298)) else (none))) else (none)) else (none)) = some r := by rw [if_pos rfl] at H; exact H
      clear H
      have H := H1
      clear H1
      obtain ⟨ji9, hji9⟩ : ∃ j_ : Int, (wrap64 (t286 + 1)) = j_ := ⟨_, rfl⟩
      replace H : (if 0 ≤ (ji9) then (if (ji9) ≤ (l0.length : Int) then ((some (l0.drop ((ji9) : Int).toNat : List (S74))).bind fun y298 => (if y295.length + y298.length < 4398046511104 then (some (y295 ++ y298)) else (none))) else (none)) else (none)) = some r := by first | (rw [hji9] at H; exact H) | (simp only [hji9] at H ⊢; exact H)
      (try rw [hji9] at A3)
      have hji9w : (IntKind.i64.wrap (t286 + 1)) = ji9 := (i64_w _).trans hji9
      by_cases c10 : 0 ≤ (ji9)
      ·
       rw [if_pos c10] at H
       have c10b0 := eq_true c10
       have c10b1 : decide (0 ≤ (ji9)) = true := decide_eq_true c10
       clear c10
       by_cases c11 : (ji9) ≤ (l0.length : Int)
       ·
        rw [if_pos c11] at H
        have c11b0 := eq_true c11
        have c11b1 : decide ((ji9) ≤ (l0.length : Int)) = true := decide_eq_true c11
        clear c11
        obtain ⟨y298, hy298⟩ : ∃ y_ : List (S74), y_ = (l0.drop ((ji9) : Int).toNat) := ⟨_, rfl⟩
        replace H : (if y295.length + y298.length < 4398046511104 then (some (y295 ++ y298)) else (none)) = some r := by first | (rw [hy298]; with_reducible exact H) | (have H2_ := (Option.bind_some _ _).symm.trans H; rw [hy298]; with_reducible exact H2_) | (have H2_ := (Option.bind_some _ _).symm.trans H; with_reducible exact H2_) | with_reducible exact H | (rw [hy298]; exact H) | exact H
        have Ny298 := aM hy298
        clear hy298
        by_cases c12 : y295.length + y298.length < 4398046511104
        ·
         rw [if_pos c12] at H
         have LMc12 := aM c12
         clear c12
         obtain ⟨y302, hy302⟩ : ∃ y_ : List (S74), y_ = (y295 ++ y298) := ⟨_, rfl⟩
         replace H : (some y302) = some r := by first | (rw [hy302]; with_reducible exact H) | (have H2_ := (Option.bind_some _ _).symm.trans H; rw [hy302]; with_reducible exact H2_) | (have H2_ := (Option.bind_some _ _).symm.trans H; with_reducible exact H2_) | with_reducible exact H | (rw [hy302]; exact H) | exact H
         have Ny302 := aM hy302
         clear hy302
         obtain rfl := Option.some.inj H
         go_enter Try.func69, Try.ntmps69
         go_wp2_with (first | ((with_reducible refine gate_dst (N := 3) rfl ?_); refine box_event ?hg (N := 3) ?hd (cs := #[.string a1_0, .string a1_1]) (t := 74) ?hr ?_; (case hd => rfl); (case hg => rfl); (case hr => first | (go_simp; done) | (go_simp; rfl)); intro gb285 hg w13 hbox hb; have n0_ := aM (below_step (gB HB.out) hb); have n1_ := aM (hbox); have n2_ := aM ((by rw [hg]; exact (below_size (gB HB.out)) : w.heap.size ≤ gb285)); have n3_ := aM ((by rw [hg]; exact (below_size (gB HB.out)) : w.heap.size ≤ gb285)); clear HB; have HB := n0_; have BK285 := n1_; have GW285 := n2_; have GE285 := n3_; clear n0_ n1_ n2_ n3_; clear hb hbox hg; have hcz14_0 : w13.cell? ⟨gb285, 0, none⟩ = some (.string a1_0) := (blk_cell BK285.out 0).trans rfl; have hcz14_1 : w13.cell? ⟨gb285, 1, none⟩ = some (.string a1_1) := (blk_cell BK285.out 1).trans rfl; have hfz14_0 := blk_frozen BK285.out 0; have hfz14_1 := blk_frozen BK285.out 1) | ((with_reducible refine gate_callee (f := 60) rfl ?_); refine goesL_ (some 12) rfl rfl Try.func60 (by kernel_rfl) rfl #[.slice A0 l0.length c0, .string a1_0] rfl (by (try simp only [List.map_toArray, List.map_cons, List.map_nil]); first | done | rfl | (simp only [List.length_drop, List.length_take]; rfl)) ?_; (with_reducible refine (spec_l7At.calls k _ _ l0 a1_0 t286 true _ ?side1 ?side2 A3.out).mono ?_); (case side1 => repeat (first | exact (Kd.C_below HR0.out HB.out) | (with_reducible refine Kd.C_alloc ?_ _) | (with_reducible refine Kd.C_drewN ?_ _) | (with_reducible refine Kd.C_drew ?_))); (case side2 => exact HC0.out); rintro e w' ⟨rfl, ⟨nd, rfl⟩⟩; refine ⟨_, rfl, ?_⟩; have q15 : (t286 : Int) ≤ ((l0.length : Int) : Int) := of_decide_eq_true (by first | (with_reducible assumption) | assumption); obtain ⟨i015, hi015, _, hsz15, _⟩ := info_parts info74; have hroom15 : l0.length ≤ c0 := HC0.out; have hC15 : Kd.C k74 _ A0 l0.length l0 := HR0.out; have hcut15 := cut_to (P := Try.prog) 62 74 .i64 Try.underlying62 hi015 A0 l0.length c0 t286 (of_decide_eq_true (by first | (with_reducible assumption) | assumption)) q15 hroom15; have hr15 := Kd.C_take (m := (t286 : Int).toNat) hC15 (by omega); have hy15 : y288.length = (t286 : Int).toNat := (by rw [Ny288.out, List.length_take]; omega); rw [← Ny288.out] at hr15; rw [← hy15] at hcut15; have HR291 := aM hr15; have HC291 := aM (show y288.length ≤ c0 from by omega); clear hr15 hC15 hroom15 hi015 hsz15; have KY15 := aM hy15; clear hy15; replace q15 := eq_true q15) | ((with_reducible refine gate_builtin (b := .append) (xs := #[.tmp 15, .tmp 18]) rfl ?_); at_builtin; refine Kd.R_append_rows k74 (w0 := w) w.heap.size rfl (.tmp 15) (.tmp 18) 62 74 (.agg #[(.string ⟨#[]⟩), (.string ⟨#[]⟩)]) 32 rfl Try.underlying62 info74 rfl (by decide) (by omega) (.slice none 0 0) ([] : List (S74)) y288 _ _ _ (fun k_ => k_ ≠ gb285) (fun _ => False) rfl rfl ?aO ?aR (fun _ _ h => h) (fun _ h => h.elim) ?aF ?aB ?aS ?aL ?_; (case aR => repeat (first | exact (Kd.C_below HR291.out (gB HB.out)) | (with_reducible refine Kd.C_alloc ?_ _) | (with_reducible refine Kd.C_drewN ?_ _) | (with_reducible refine Kd.C_drew ?_))); (case aB => exact (gB HB.out)); (case aF => exact (fun k_ hk => Kd.freshB (g := gb285) (o := .cells #[.string a1_0, .string a1_1] 74 (0, 0)) (gK BK285.out) k_ hk)); (case aO => exact ((Kd.R_nil _ _ _ _ (fun k_ => k_ ≠ gb285)))); (case aS => exact (below_size (gB HB.out))); (case aL => have := LMc6.out; omega); intro v293 w16 ho hb hg hat; rw [← Ny292.out] at ho; have n0_ := aM (blk_grown (g := gb285) (o := .cells #[.string a1_0, .string a1_1] 74 (0, 0)) (gK BK285.out) hg (by simp [Value.ownBlock])); have n1_ := aM (hb); have n2_ := aM (ho); clear BK285; clear HB; have BK285 := n0_; have HB := n1_; have HO294 := n2_; clear n0_ n1_ n2_; clear ho hb hg hat; have hcz17_0 : w16.cell? ⟨gb285, 0, none⟩ = some (.string a1_0) := (blk_cell BK285.out 0).trans rfl; have hcz17_1 : w16.cell? ⟨gb285, 1, none⟩ = some (.string a1_1) := (blk_cell BK285.out 1).trans rfl; have hfz17_0 := blk_frozen BK285.out 0; have hfz17_1 := blk_frozen BK285.out 1) | ((with_reducible refine gate_builtin (b := .append) (xs := #[.tmp 20, .tmp 22]) rfl ?_); at_builtin; refine Kd.R_append k74 (w0 := w) w.heap.size rfl (.tmp 20) (.tmp 22) 62 74 (.agg #[(.string ⟨#[]⟩), (.string ⟨#[]⟩)]) 32 rfl Try.underlying62 info74 rfl (by decide) (by omega) v293 y292 (⟨a1_0, a1_1⟩ : S74) [.string a1_0, .string a1_1] (fun k_ => k_ ≠ gb285) (fun _ => False) rfl rfl ?aP (fun _ hk => hk.elim) ?aF ?aO ?aB ?aS ?aL ?_; (case aP => exact k74_mkM _ _ _ (⟨a1_0, a1_1⟩ : S74)); (case aB => exact (gB HB.out)); (case aF => exact (fun k_ hk => Kd.freshB (g := gb285) (o := .cells #[.string a1_0, .string a1_1] 74 (0, 0)) (gK BK285.out) k_ hk)); (case aO => exact (gR HO294.out)); (case aS => exact (below_size (gB HB.out))); (case aL => have := LMc7.out; omega); intro v296 w18 ho hb hg hat; rw [← Ny295.out] at ho; have n0_ := aM (blk_grown (g := gb285) (o := .cells #[.string a1_0, .string a1_1] 74 (0, 0)) (gK BK285.out) hg (Kd.R_away HO294.out (fun _ hk => hk))); have n1_ := aM (hb); have n2_ := aM (ho); clear BK285; clear HB; clear HO294; have BK285 := n0_; have HB := n1_; have HO297 := n2_; clear n0_ n1_ n2_; clear ho hb hg hat; have q19 : ((ji9) : Int) ≤ ((l0.length : Int) : Int) := of_decide_eq_true (by first | (with_reducible assumption) | assumption); obtain ⟨i019, hi019, _, hsz19, _⟩ := info_parts info74; have hroom19 : l0.length ≤ c0 := HC0.out; have hC19 : Kd.C k74 _ A0 l0.length l0 := HR0.out; have q019 : (0 : Int) ≤ ((ji9) : Int) := of_decide_eq_true (by first | (with_reducible assumption) | assumption); have hcut19 := cut_from (P := Try.prog) 62 74 .i64 Try.underlying62 hi019 2 hsz19 A0 l0.length c0 (ji9) q019 q19; have hr19 := Kd.C_drop (m := ((ji9) : Int).toNat) (c := c0) hC19 (by omega) hroom19; obtain ⟨A19, hA19⟩ : ∃ A1, A1 = (if c0 = ((ji9) : Int).toNat then A0 else (A0 : Option Addr).map (·.add (((ji9) : Int).toNat * 2))) := ⟨_, rfl⟩; obtain ⟨c19, hc19⟩ : ∃ c1, c1 = c0 - ((ji9) : Int).toNat := ⟨_, rfl⟩; have hy19 : y298.length = l0.length - ((ji9) : Int).toNat := (by rw [Ny298.out, List.length_drop] <;> omega); rw [show (l0).drop ((ji9) : Int).toNat = y298 from Ny298.out.symm] at hr19; replace hr19 : Kd.C k74 _ A19 y298.length y298 := (by rw [hA19]; exact hr19); rw [← hy19, ← hA19, ← hc19] at hcut19; have HR301 := aM hr19; have HC301 := aM (show y298.length ≤ c19 from by rw [hy19, hc19]; exact Nat.sub_le_sub_right hroom19 _); clear hr19 hC19 hroom19 hi019 hsz19 hc19; have KY19 := aM hy19; have KA19 := aM hA19; clear hy19 hA19; replace q19 := eq_true q19) | ((with_reducible refine gate_builtin (b := .append) (xs := #[.tmp 27, .tmp 30]) rfl ?_); at_builtin; refine Kd.R_append_rows k74 (w0 := w) w.heap.size rfl (.tmp 27) (.tmp 30) 62 74 (.agg #[(.string ⟨#[]⟩), (.string ⟨#[]⟩)]) 32 rfl Try.underlying62 info74 rfl (by decide) (by omega) v296 y295 y298 _ _ _ (fun k_ => k_ ≠ gb285) (fun _ => False) rfl rfl ?aO ?aR (fun _ _ h => h) (fun _ h => h.elim) ?aF ?aB ?aS ?aL ?_; (case aR => repeat (first | exact (Kd.C_below HR301.out HB.out) | (with_reducible refine Kd.C_alloc ?_ _) | (with_reducible refine Kd.C_drewN ?_ _) | (with_reducible refine Kd.C_drew ?_))); (case aB => exact (gB HB.out)); (case aF => exact (fun k_ hk => Kd.freshB (g := gb285) (o := .cells #[.string a1_0, .string a1_1] 74 (0, 0)) (gK BK285.out) k_ hk)); (case aO => exact (gR HO297.out)); (case aS => exact (below_size (gB HB.out))); (case aL => have := LMc12.out; omega); intro v303 w20 ho hb hg hat; rw [← Ny302.out] at ho; have n0_ := aM (blk_grown (g := gb285) (o := .cells #[.string a1_0, .string a1_1] 74 (0, 0)) (gK BK285.out) hg (Kd.R_away HO297.out (fun _ hk => hk))); have n1_ := aM (hb); have n2_ := aM (ho); clear BK285; clear HB; clear HO297; have BK285 := n0_; have HB := n1_; have HO304 := n2_; clear n0_ n1_ n2_; clear ho hb hg hat))
         go_ret
         exact ⟨_, by first | rfl | (simp [errW_none, errW_some] <;> rfl) | (simp only [← hji9]; first | rfl | (simp [errW_none, errW_some] <;> rfl)) | (simp [*, errW_none, errW_some] <;> rfl), by (with_reducible repeat (first | apply Kd.R_alloc | apply Kd.R_drewN | apply Kd.R_drew)); exact Kd.R_mono HO304.out (fun _ hk => trivial), by repeat (first | (with_reducible first | exact HB.out | apply below_alloc | apply pw_below_drewN | apply below_drew1 | refine below_set ?_ GE285.out) | exact HB.out)⟩
        ·
         rw [if_neg c12] at H
         exact absurd H (by simp)
       ·
        rw [if_neg c11] at H
        exact absurd H (by simp)
      ·
       rw [if_neg c10] at H
       exact absurd H (by simp)
     ·
      replace c8 := Bool.eq_false_iff.mpr c8
      subst c8
      have H1 : ((some (l0.drop (t286 : Int).toNat : List (S74))).bind fun y305 => (if y295.length + y305.length < 4398046511104 then (some (y295 ++ y305)) else (none))) = some r := by rw [if_neg (show ¬ (false = true) by decide)] at H; exact H
      clear H
      have H := H1
      clear H1
      have c21b0 := eq_true (of_decide_eq_true (by first | (with_reducible assumption) | assumption) : 0 ≤ t286)
      have c22b0 := eq_true (of_decide_eq_true (by first | (with_reducible assumption) | assumption) : t286 ≤ (l0.length : Int))
      obtain ⟨y305, hy305⟩ : ∃ y_ : List (S74), y_ = (l0.drop (t286 : Int).toNat) := ⟨_, rfl⟩
      replace H : (if y295.length + y305.length < 4398046511104 then (some (y295 ++ y305)) else (none)) = some r := by first | (rw [hy305]; with_reducible exact H) | (have H2_ := (Option.bind_some _ _).symm.trans H; rw [hy305]; with_reducible exact H2_) | (have H2_ := (Option.bind_some _ _).symm.trans H; with_reducible exact H2_) | with_reducible exact H | (rw [hy305]; exact H) | exact H
      have Ny305 := aM hy305
      clear hy305
      by_cases c23 : y295.length + y305.length < 4398046511104
      ·
       rw [if_pos c23] at H
       have LMc23 := aM c23
       clear c23
       obtain ⟨y309, hy309⟩ : ∃ y_ : List (S74), y_ = (y295 ++ y305) := ⟨_, rfl⟩
       replace H : (some y309) = some r := by first | (rw [hy309]; with_reducible exact H) | (have H2_ := (Option.bind_some _ _).symm.trans H; rw [hy309]; with_reducible exact H2_) | (have H2_ := (Option.bind_some _ _).symm.trans H; with_reducible exact H2_) | with_reducible exact H | (rw [hy309]; exact H) | exact H
       have Ny309 := aM hy309
       clear hy309
       obtain rfl := Option.some.inj H
       go_enter Try.func69, Try.ntmps69
       go_wp2_with (first | ((with_reducible refine gate_dst (N := 3) rfl ?_); refine box_event ?hg (N := 3) ?hd (cs := #[.string a1_0, .string a1_1]) (t := 74) ?hr ?_; (case hd => rfl); (case hg => rfl); (case hr => first | (go_simp; done) | (go_simp; rfl)); intro gb285 hg w24 hbox hb; have n0_ := aM (below_step (gB HB.out) hb); have n1_ := aM (hbox); have n2_ := aM ((by rw [hg]; exact (below_size (gB HB.out)) : w.heap.size ≤ gb285)); have n3_ := aM ((by rw [hg]; exact (below_size (gB HB.out)) : w.heap.size ≤ gb285)); clear HB; have HB := n0_; have BK285 := n1_; have GW285 := n2_; have GE285 := n3_; clear n0_ n1_ n2_ n3_; clear hb hbox hg; have hcz25_0 : w24.cell? ⟨gb285, 0, none⟩ = some (.string a1_0) := (blk_cell BK285.out 0).trans rfl; have hcz25_1 : w24.cell? ⟨gb285, 1, none⟩ = some (.string a1_1) := (blk_cell BK285.out 1).trans rfl; have hfz25_0 := blk_frozen BK285.out 0; have hfz25_1 := blk_frozen BK285.out 1) | ((with_reducible refine gate_callee (f := 60) rfl ?_); refine goesL_ (some 12) rfl rfl Try.func60 (by kernel_rfl) rfl #[.slice A0 l0.length c0, .string a1_0] rfl (by (try simp only [List.map_toArray, List.map_cons, List.map_nil]); first | done | rfl | (simp only [List.length_drop, List.length_take]; rfl)) ?_; (with_reducible refine (spec_l7At.calls k _ _ l0 a1_0 t286 false _ ?side1 ?side2 A3.out).mono ?_); (case side1 => repeat (first | exact (Kd.C_below HR0.out HB.out) | (with_reducible refine Kd.C_alloc ?_ _) | (with_reducible refine Kd.C_drewN ?_ _) | (with_reducible refine Kd.C_drew ?_))); (case side2 => exact HC0.out); rintro e w' ⟨rfl, ⟨nd, rfl⟩⟩; refine ⟨_, rfl, ?_⟩; have q26 : (t286 : Int) ≤ ((l0.length : Int) : Int) := of_decide_eq_true (by first | (with_reducible assumption) | assumption); obtain ⟨i026, hi026, _, hsz26, _⟩ := info_parts info74; have hroom26 : l0.length ≤ c0 := HC0.out; have hC26 : Kd.C k74 _ A0 l0.length l0 := HR0.out; have hcut26 := cut_to (P := Try.prog) 62 74 .i64 Try.underlying62 hi026 A0 l0.length c0 t286 (of_decide_eq_true (by first | (with_reducible assumption) | assumption)) q26 hroom26; have hr26 := Kd.C_take (m := (t286 : Int).toNat) hC26 (by omega); have hy26 : y288.length = (t286 : Int).toNat := (by rw [Ny288.out, List.length_take]; omega); rw [← Ny288.out] at hr26; rw [← hy26] at hcut26; have HR291 := aM hr26; have HC291 := aM (show y288.length ≤ c0 from by omega); clear hr26 hC26 hroom26 hi026 hsz26; have KY26 := aM hy26; clear hy26; replace q26 := eq_true q26) | ((with_reducible refine gate_builtin (b := .append) (xs := #[.tmp 15, .tmp 18]) rfl ?_); at_builtin; refine Kd.R_append_rows k74 (w0 := w) w.heap.size rfl (.tmp 15) (.tmp 18) 62 74 (.agg #[(.string ⟨#[]⟩), (.string ⟨#[]⟩)]) 32 rfl Try.underlying62 info74 rfl (by decide) (by omega) (.slice none 0 0) ([] : List (S74)) y288 _ _ _ (fun k_ => k_ ≠ gb285) (fun _ => False) rfl rfl ?aO ?aR (fun _ _ h => h) (fun _ h => h.elim) ?aF ?aB ?aS ?aL ?_; (case aR => repeat (first | exact (Kd.C_below HR291.out (gB HB.out)) | (with_reducible refine Kd.C_alloc ?_ _) | (with_reducible refine Kd.C_drewN ?_ _) | (with_reducible refine Kd.C_drew ?_))); (case aB => exact (gB HB.out)); (case aF => exact (fun k_ hk => Kd.freshB (g := gb285) (o := .cells #[.string a1_0, .string a1_1] 74 (0, 0)) (gK BK285.out) k_ hk)); (case aO => exact ((Kd.R_nil _ _ _ _ (fun k_ => k_ ≠ gb285)))); (case aS => exact (below_size (gB HB.out))); (case aL => have := LMc6.out; omega); intro v293 w27 ho hb hg hat; rw [← Ny292.out] at ho; have n0_ := aM (blk_grown (g := gb285) (o := .cells #[.string a1_0, .string a1_1] 74 (0, 0)) (gK BK285.out) hg (by simp [Value.ownBlock])); have n1_ := aM (hb); have n2_ := aM (ho); clear BK285; clear HB; have BK285 := n0_; have HB := n1_; have HO294 := n2_; clear n0_ n1_ n2_; clear ho hb hg hat; have hcz28_0 : w27.cell? ⟨gb285, 0, none⟩ = some (.string a1_0) := (blk_cell BK285.out 0).trans rfl; have hcz28_1 : w27.cell? ⟨gb285, 1, none⟩ = some (.string a1_1) := (blk_cell BK285.out 1).trans rfl; have hfz28_0 := blk_frozen BK285.out 0; have hfz28_1 := blk_frozen BK285.out 1) | ((with_reducible refine gate_builtin (b := .append) (xs := #[.tmp 20, .tmp 22]) rfl ?_); at_builtin; refine Kd.R_append k74 (w0 := w) w.heap.size rfl (.tmp 20) (.tmp 22) 62 74 (.agg #[(.string ⟨#[]⟩), (.string ⟨#[]⟩)]) 32 rfl Try.underlying62 info74 rfl (by decide) (by omega) v293 y292 (⟨a1_0, a1_1⟩ : S74) [.string a1_0, .string a1_1] (fun k_ => k_ ≠ gb285) (fun _ => False) rfl rfl ?aP (fun _ hk => hk.elim) ?aF ?aO ?aB ?aS ?aL ?_; (case aP => exact k74_mkM _ _ _ (⟨a1_0, a1_1⟩ : S74)); (case aB => exact (gB HB.out)); (case aF => exact (fun k_ hk => Kd.freshB (g := gb285) (o := .cells #[.string a1_0, .string a1_1] 74 (0, 0)) (gK BK285.out) k_ hk)); (case aO => exact (gR HO294.out)); (case aS => exact (below_size (gB HB.out))); (case aL => have := LMc7.out; omega); intro v296 w29 ho hb hg hat; rw [← Ny295.out] at ho; have n0_ := aM (blk_grown (g := gb285) (o := .cells #[.string a1_0, .string a1_1] 74 (0, 0)) (gK BK285.out) hg (Kd.R_away HO294.out (fun _ hk => hk))); have n1_ := aM (hb); have n2_ := aM (ho); clear BK285; clear HB; clear HO294; have BK285 := n0_; have HB := n1_; have HO297 := n2_; clear n0_ n1_ n2_; clear ho hb hg hat; have q30 : (t286 : Int) ≤ ((l0.length : Int) : Int) := of_decide_eq_true (by first | (with_reducible assumption) | assumption); obtain ⟨i030, hi030, _, hsz30, _⟩ := info_parts info74; have hroom30 : l0.length ≤ c0 := HC0.out; have hC30 : Kd.C k74 _ A0 l0.length l0 := HR0.out; have q030 : (0 : Int) ≤ (t286 : Int) := of_decide_eq_true (by first | (with_reducible assumption) | assumption); have hcut30 := cut_from (P := Try.prog) 62 74 .i64 Try.underlying62 hi030 2 hsz30 A0 l0.length c0 t286 q030 q30; have hr30 := Kd.C_drop (m := (t286 : Int).toNat) (c := c0) hC30 (by omega) hroom30; obtain ⟨A30, hA30⟩ : ∃ A1, A1 = (if c0 = (t286 : Int).toNat then A0 else (A0 : Option Addr).map (·.add ((t286 : Int).toNat * 2))) := ⟨_, rfl⟩; obtain ⟨c30, hc30⟩ : ∃ c1, c1 = c0 - (t286 : Int).toNat := ⟨_, rfl⟩; have hy30 : y305.length = l0.length - (t286 : Int).toNat := (by rw [Ny305.out, List.length_drop] <;> omega); rw [show (l0).drop (t286 : Int).toNat = y305 from Ny305.out.symm] at hr30; replace hr30 : Kd.C k74 _ A30 y305.length y305 := (by rw [hA30]; exact hr30); rw [← hy30, ← hA30, ← hc30] at hcut30; have HR308 := aM hr30; have HC308 := aM (show y305.length ≤ c30 from by rw [hy30, hc30]; exact Nat.sub_le_sub_right hroom30 _); clear hr30 hC30 hroom30 hi030 hsz30 hc30; have KY30 := aM hy30; have KA30 := aM hA30; clear hy30 hA30; replace q30 := eq_true q30) | ((with_reducible refine gate_builtin (b := .append) (xs := #[.tmp 27, .tmp 30]) rfl ?_); at_builtin; refine Kd.R_append_rows k74 (w0 := w) w.heap.size rfl (.tmp 27) (.tmp 30) 62 74 (.agg #[(.string ⟨#[]⟩), (.string ⟨#[]⟩)]) 32 rfl Try.underlying62 info74 rfl (by decide) (by omega) v296 y295 y305 _ _ _ (fun k_ => k_ ≠ gb285) (fun _ => False) rfl rfl ?aO ?aR (fun _ _ h => h) (fun _ h => h.elim) ?aF ?aB ?aS ?aL ?_; (case aR => repeat (first | exact (Kd.C_below HR308.out HB.out) | (with_reducible refine Kd.C_alloc ?_ _) | (with_reducible refine Kd.C_drewN ?_ _) | (with_reducible refine Kd.C_drew ?_))); (case aB => exact (gB HB.out)); (case aF => exact (fun k_ hk => Kd.freshB (g := gb285) (o := .cells #[.string a1_0, .string a1_1] 74 (0, 0)) (gK BK285.out) k_ hk)); (case aO => exact (gR HO297.out)); (case aS => exact (below_size (gB HB.out))); (case aL => have := LMc23.out; omega); intro v310 w31 ho hb hg hat; rw [← Ny309.out] at ho; have n0_ := aM (blk_grown (g := gb285) (o := .cells #[.string a1_0, .string a1_1] 74 (0, 0)) (gK BK285.out) hg (Kd.R_away HO297.out (fun _ hk => hk))); have n1_ := aM (hb); have n2_ := aM (ho); clear BK285; clear HB; clear HO297; have BK285 := n0_; have HB := n1_; have HO311 := n2_; clear n0_ n1_ n2_; clear ho hb hg hat))
       go_ret
       exact ⟨_, by first | rfl | (simp [errW_none, errW_some] <;> rfl) | (simp [*, errW_none, errW_some] <;> rfl), by (with_reducible repeat (first | apply Kd.R_alloc | apply Kd.R_drewN | apply Kd.R_drew)); exact Kd.R_mono HO311.out (fun _ hk => trivial), by repeat (first | (with_reducible first | exact HB.out | apply below_alloc | apply pw_below_drewN | apply below_drew1 | refine below_set ?_ GE285.out) | exact HB.out)⟩
      ·
       rw [if_neg c23] at H
       exact absurd H (by simp)
    ·
     rw [if_neg c7] at H
     exact absurd H (by simp)
   ·
    rw [if_neg c6] at H
    exact absurd H (by simp)
  ·
   rw [if_neg c5] at H
   exact absurd H (by simp)
 ·
  rw [if_neg c4] at H
  exact absurd H (by simp)

end Go.Proofs.Ytjknkeipginpcaa.PQ
end

section
namespace Go.Proofs.Ytjknkeipginpcaa.PQ
open Go.RowKit Go.Proofs.YtjknkeipginpcaaW.PrintWords Go.Proofs.YtjknkeipginpcaaW.PrintLast Go.Proofs.YtjknkeipginpcaaW.PrintMore
attribute [local go_sem] max2_int min2_int max_two min_two max_three min_three max_four min_four
set_option linter.unusedVariables false
set_option linter.unusedSimpArgs false
attribute [local go_sem] Go.Proofs.Ytjknkeipginpcaa.StrO.leq_s Go.Proofs.Ytjknkeipginpcaa.StrO.gtr_s Go.Proofs.Ytjknkeipginpcaa.StrO.geq_s

end Go.Proofs.Ytjknkeipginpcaa.PQ
end

/- Several texts in one: what the claim's last text rests on. No conditions. -/
import Derived.Test.YtppmigiknidjhaaMDf11
import Derived.Test.YtppmigiknidjhaaMDf2
import Derived.Test.YtppmigiknidjhaaMDf5
import Derived.Test.YtppmigiknidjhaaMDf9
import Derived.Test.YtppmigiknidjhaaMDf7
import Derived.Test.YtppmigiknidjhaaMDf10
import Derived.Test.YtppmigiknidjhaaMDf4
section
/- impl.suffixes: the places of a text in the order of what begins there. No conditions. -/
namespace Go.Proofs.Ytppmigiknidjhaa.Suf
set_option linter.unusedVariables false
set_option linter.unusedSimpArgs false
open Go.RowKit Go.Sort Go.Lib Go.Shelf Go.Proofs.Ytppmigiknidjhaa.PQ Go.Proofs.YtppmigiknidjhaaW.PrintWords Go.Proofs.YtppmigiknidjhaaW.PrintLast Go.Proofs.YtppmigiknidjhaaW.PrintMore Go.Proofs.Ytppmigiknidjhaa.Srt

/-- What begins at a place. -/
def suf (s : ByteArray) (i : Nat) : ByteArray := s.extract i s.size
abbrev Pl (s : ByteArray) := Fin (s.size + 1)
def encP {s : ByteArray} (i : Pl s) : Value := .int .i64 (i.1 : Int)
def cfP {s : ByteArray} (x y : Pl s) : Int := cmpS (suf s x.1) (suf s y.1)
theorem ltP {s : ByteArray} (x y : Pl s) : ltOf cfP x y = ltS (suf s x.1) (suf s y.1) := cmp_lt _ _
theorem swoP {s : ByteArray} : SWO (ltOf (cfP (s := s))) where
  irrefl x := by rw [ltP]; exact ltS_irrefl _
  trans x y z h1 h2 := by rw [ltP] at *; exact ltS_trans h1 h2
  ntrans x y z h1 h2 := by rw [ltP] at *; exact ltS_ntrans h1 h2
theorem suf_size (s : ByteArray) (i : Nat) (h : i ≤ s.size) : (suf s i).size = s.size - i := by
  unfold suf
  rw [ByteArray.size_extract]
  omega
theorem totP {s : ByteArray} (x y : Pl s) (h1 : ltOf cfP x y = false) (h2 : ltOf cfP y x = false) : x = y := by
  rw [ltP] at *
  have e := congrArg ByteArray.size (ltS_tri h1 h2)
  rw [suf_size _ _ (by omega), suf_size _ _ (by omega)] at e
  apply Fin.ext
  omega
def places (s : ByteArray) : List (Pl s) := List.ofFn (fun i : Fin s.size => i.castSucc)
def sufP (s : ByteArray) : List (Pl s) := (places s).mergeSort (fun x y => !(ltOf cfP) y x)
/-- The places, in the order of what begins there. -/
def sufs (s : ByteArray) : List Int := (sufP s).map (fun i => (i.1 : Int))

set_option maxHeartbeats 400000 in
theorem closure (s : ByteArray) (x y : Pl s) (B : Nat) (W : World) (hc : W.cell? ⟨B, 0, none⟩ = some (.string s)) (hs : s.size ≤ 1048576) :
    Calls Try.prog 62 #[.int .i64 (x.1 : Int), .int .i64 (y.1 : Int), .pointer (some ⟨B, 0, none⟩)] W fun e w' => e = .returned (.int .i64 (cfP x y)) ∧ ∃ q, w' = W.drewN q := by
  have hx : x.1 ≤ s.size := by omega
  have hy : y.1 ≤ s.size := by omega
  unfold cfP suf
  generalize x.1 = a at *
  generalize y.1 = b at *
  go_enter Try.func62, Try.ntmps62
  go_wp2
  go_quiet ((go_at_call 63; exact Calls.quiet_of_same (compare_q _ _ _)))
  go_wp2
  go_ret
  exact ⟨rfl, _, rfl⟩
theorem lays (s : ByteArray) (B : Nat) (hs : s.size ≤ 1048576) (blk size : Nat) (w : World) (hc : w.cell? ⟨B, 0, none⟩ = some (.string s)) (hne : B ≠ blk) (hB : B < w.heap.size) :
    CmpLays1 Try.prog 62 #[.pointer (some ⟨B, 0, none⟩)] (encP (s := s)) cfP blk 0 size w := by
  intro m os dk hd x y
  have hc2 : (sortWorld (encP (s := s)) w blk 0 m dk os).cell? ⟨B, 0, none⟩ = some (.string s) := by
    have h1 : (putRow (encP (s := s)) (Sort.ahead w m) blk 0 dk).cell? ⟨B, 0, none⟩ = some (.string s) := by
      rw [cell?_putRow_other _ _ _ _ _ _ (.inl hne)]
      exact hc
    have hl : B < (putRow (encP (s := s)) (Sort.ahead w m) blk 0 dk).heap.size := by
      rw [size_putRow]
      exact hB
    exact (World.cell?_of_block (w := putRow (encP (s := s)) (Sort.ahead w m) blk 0 dk) (w' := sortWorld (encP (s := s)) w blk 0 m dk os) (a := ⟨B, 0, none⟩) (by
      show ((putRow (encP (s := s)) (Sort.ahead w m) blk 0 dk).heap ++ os)[B]? = _
      rw [Array.getElem?_append_left hl])).trans h1
  refine (closure s x y B _ hc2 hs).mono ?_
  rintro e w' ⟨rfl, q, rfl⟩
  exact ⟨rfl, q, #[], by rw [grow_empty]⟩

/-- The row before the sort, as far as it is filled. -/
def filled (s : ByteArray) (i : Nat) : List Int := (List.range i).map (fun j : Nat => (j : Int)) ++ List.replicate (s.size - i) 0
theorem filled_len (s : ByteArray) (i : Nat) (h : i ≤ s.size) : (filled s i).length = s.size := by
  unfold filled
  simp
  omega
theorem filled_set (s : ByteArray) (i : Nat) (h : i < s.size) : (filled s i).set i (i : Int) = filled s (i + 1) := by
  unfold filled
  rw [List.set_append_right _ _ (by simp)]
  rw [show s.size - i = (s.size - (i + 1)) + 1 by omega, List.replicate_succ, List.range_succ]
  simp
theorem filled_all (s : ByteArray) : filled s s.size = (places s).map (fun i => (i.1 : Int)) := by
  unfold filled places
  rw [Nat.sub_self, List.replicate_zero, List.append_nil]
  apply List.ext_getElem?
  intro j
  by_cases hj : j < s.size
  · simp [hj]
  · rw [List.getElem?_eq_none (by simp; omega), List.getElem?_eq_none (by simp; omega)]
theorem R_cast {s : ByteArray} {e : Nat} {W : World} {base : Nat} {ok : Nat → Prop} {v : Value} {zs : List (Pl s)} : (Kd.int .i64).R e W base ok v (zs.map (fun i => (i.1 : Int))) ↔ (Kd.scalar (encP (s := s)) (fun _ => rfl)).R e W base ok v zs := by
  have e1 : encs (Value.int .i64) (zs.map (fun i => (i.1 : Int))) = encs (encP (s := s)) zs := by
    rw [encs_map, encs_map, List.map_map]
    rfl
  constructor
  · intro h
    have ho := Kd.own_of_R (h1 := fun _ => rfl) h
    rw [e1, List.length_map] at ho
    exact Kd.R_of_own ho h.1
  · intro h
    have ho := Kd.own_of_R h
    rw [← e1] at ho
    refine Kd.R_of_own (h1 := fun _ => rfl) ?_ h.1
    rw [List.length_map]
    exact ho

theorem made (s : ByteArray) (w : World) (v : Value) (w4 : World) (h : (Kd.int .i64).R 3 w4 (w.alloc (.cells #[.string s] 9)).heap.size (fun _ => True) v (List.replicate (s.size : Int).toNat 0)) (hb : Below (w.alloc (.cells #[.string s] 9)).heap.size (w.alloc (.cells #[.string s] 9)) w4) :
    ∃ A c, Aside0 ((Kd.int .i64).R 3 w4 (w.heap.size + 1) (fun _ => True) (.slice A s.size c) (filled s 0)) ∧ v = .slice A s.size c ∧ s.size ≤ c ∧ Aside0 (Below w.heap.size w w4) ∧ Aside0 (w4.cell? ⟨w.heap.size, 0, none⟩ = some (.string s) ∧ w.heap.size + 1 ≤ w4.heap.size) := by
  have e : List.replicate (s.size : Int).toNat (0 : Int) = filled s 0 := by
    unfold filled
    simp
  rw [e] at h
  have hz : (w.alloc (.cells #[.string s] 9)).heap.size = w.heap.size + 1 := by simp
  rw [hz] at h hb
  obtain ⟨A, c, rfl, hl, hc⟩ := Kd.R_reads h
  rw [filled_len s 0 (by omega)] at h hl ⊢
  refine ⟨A, c, ⟨h⟩, rfl, hl, ⟨?_⟩, ⟨?_, ?_⟩⟩
  · exact below_then (below_alloc (Below.refl _ _) _) (by rw [hz]; omega) (by rw [hz]; exact hb)
  · refine (hb.cell (p := ⟨w.heap.size, 0, none⟩) (by simp)).trans ?_
    simp
  · rw [← hz]
    exact hb.size

set_option maxHeartbeats 1000000 in
set_option maxRecDepth 100000 in
theorem calls (s : ByteArray) (w : World) (hs : s.size ≤ 1048576) :
    Calls Try.prog 38 #[.string s] w fun e w' => ∃ v0_ : Value, e = .returned (v0_) ∧ Kd.R (Kd.int .i64) 3 w' w.heap.size (fun _ => True) v0_ (sufs s) ∧ Below w.heap.size w w' := by
  have HS := Aside0.mk hs
  have HB := Aside0.mk (Below.refl w.heap.size w)
  have hs2 : (s.size : Int) ≤ 1048576 := by omega
  clear hs
  go_enter Try.func38, Try.ntmps38
  go_wp2_with (first | ((with_reducible refine gate_dst (N := 7) rfl ?_); refine Kd.R_make (Kd.int .i64) _ 3 rfl (N := 7) rfl 22 _ _ rfl (s.size : Int) rfl rfl Try.underlying22 (.int .i64 0) 8 info3 rfl (by decide) (by omega) 0 (ok := fun _ => True) (okp := fun _ => True) rfl (fun _ hk => hk) trivial (by omega) (by omega) (Below.refl _ _) (Nat.le_refl _) ?_; intro v182 w4 ho5 hb hg_ hnew_; clear hg_ hnew_; obtain ⟨A9, c9, HO, HA, HL, HB2, HC⟩ := made s w v182 w4 ho5 hb; clear ho5 hb; subst HA))
  have hA : s.size = 0 ∨ 0 < s.size := by omega
  go_loopg [10] s.size (fun kq v10 w' => ∃ i : Nat, v10 = .int .i64 (i : Int) ∧ i ≤ s.size ∧ kq = s.size - i ∧ Aside0 (Kd.R (Kd.int .i64) 3 w' (w.heap.size + 1) (fun _ => True) (.slice A9 s.size c9) (filled s i)) ∧ Aside0 (Below (w.heap.size + 1) w4 w'))
  case atStart => exact ⟨0, rfl, by omega, by omega, HO, ⟨Below.refl _ _⟩⟩
  case round =>
    obtain ⟨i, rfl, hi, hk, HO1, HB3⟩ := hrel
    by_cases hlt : i < s.size
    · obtain ⟨g, cg, eg, gb, gl, cells, HG⟩ := Kd.R_form HO1.out (by rw [filled_len s i hi]; omega)
      rw [filled_len s i hi] at eg
      injection eg with e1 e2 e3
      subst e1 e3
      obtain ⟨hx, hf⟩ := Kd.R_celln 0 HO1.out (i : Int) (by omega) (by omega)
      rw [Int.toNat_natCast] at hx hf
      have HP := Aside0.mk (Kd.R_putn HO1.out (i : Int) (i : Int))
      rw [Int.toNat_natCast, filled_set s i hlt] at HP
      have GB := Aside0.mk gb
      clear HG gl gb
      have hi2 : (i : Int) < (s.size : Int) := by omega
      go_wp2
      go_roundg (s.size - (i + 1))
      case measure => omega
      case rel => exact ⟨i + 1, by go_num, by omega, by omega, ⟨HP.out⟩, ⟨HB3.out.setCell GB.out _⟩⟩
    · obtain rfl : i = s.size := by omega
      have HC2 := Aside0.mk ((HB3.out.cell (p := ⟨w.heap.size, 0, none⟩) (by simp)).trans HC.out.1)
      have HZ := Aside0.mk (show w.heap.size < wr.heap.size from by have := HB3.out.size; have := HC.out.2; omega)
      have HBW := Aside0.mk (show Below w.heap.size w wr from HB2.out.trans (HB3.out.mono (by omega)))
      have HC3 := HC
      clear HC HB3 HB2 HO
      rcases hA with hA | hA
      · have HN : ∀ W : World, Calls Try.prog 61 #[.slice A9 s.size c9, (.func (.func 62) #[] #[.pointer (some ⟨w.heap.size, 0, none⟩)])] W fun e w' => e = .returned (.tuple #[]) ∧ w' = W := fun W => by
          rw [hA]
          exact Try.slices_SortFunc_none_f61 (α := Nat) A9 c9 _ W
        have HE := Aside0.mk hA
        clear hA
        have HN2 := Aside0.mk HN
        clear HN
        go_wp2_with (go_at_call 61; refine (HN2.out _).mono ?_; rintro e w' ⟨rfl, rfl⟩)
        go_ret
        refine ⟨_, rfl, ?_, HBW.out⟩
        have h2 := HO1.out
        rw [filled_all] at h2
        have h3 : places s = [] := List.eq_nil_of_length_eq_zero (by rw [← HE.out]; simp [places])
        rw [show sufs s = (places s).map (fun i => (i.1 : Int)) from by unfold sufs sufP; rw [h3, List.mergeSort_nil]]
        exact Kd.R_lower h2 (by omega)
      · have h2 := HO1.out
        rw [filled_all] at h2
        have h3 := R_cast.1 h2
        have hpl : (places s).length = s.size := by simp [places]
        obtain ⟨g, cg, eg, gb, gl, cells, HG⟩ := Kd.R_form h3 (by omega)
        rw [hpl] at eg
        injection eg with e1 e2 e3
        subst e1 e3
        obtain ⟨hH, hgl, hgb⟩ := R_holds h3
        have HT := Try.slices_SortFunc_total_f61 (encP (s := s)) (fun _ => rfl) cfP swoP 62 #[.pointer (some ⟨w.heap.size, 0, none⟩)] g 0 c9 (places s).toArray wr
          (enters_of Try.func62 (by kernel_rfl) rfl) (lays s w.heap.size HS.out g _ wr HC2.out (by omega) HZ.out) hH hgl (by simp [hpl]; omega) totP
        rw [show (places s).toArray.size = s.size from by simp [hpl], show (places s).toArray.toList = places s from rfl] at HT
        have HT2 := Aside0.mk HT
        have H3 := Aside0.mk h3
        have GB := Aside0.mk hgb
        clear HT h2 h3 hpl HG gl gb hH hgl hgb
        go_wp2_with (go_at_call 61; refine HT2.out.mono ?_; rintro e w' ⟨rfl, nq, os, hw⟩; have HW := Aside0.mk hw; clear hw)
        go_ret
        have hw := HW.out
        subst hw
        refine ⟨_, rfl, ?_, HBW.out.grown (sort_grown nq os _) (by have := HZ.out; omega) (fun k hk => by injection hk with hk; have := GB.out; omega)⟩
        have h4 := R_sorted H3.out (ys := sufP s) (by unfold sufP; rw [List.length_mergeSort]) nq os
        exact Kd.R_lower (R_cast.2 h4) (by omega)
end Go.Proofs.Ytppmigiknidjhaa.Suf
end

section
-- Written by a program of this session (pprint.py) out of the translation's print; Lean checks it.
namespace Go.Proofs.Ytppmigiknidjhaa.PQ
open Go.RowKit Go.Proofs.YtppmigiknidjhaaW.PrintWords Go.Proofs.YtppmigiknidjhaaW.PrintLast Go.Proofs.YtppmigiknidjhaaW.PrintMore
attribute [local go_sem] max2_int min2_int max_two min_two max_three min_three max_four min_four   -- for this text's walks alone
set_option linter.unusedVariables false
set_option linter.unusedSimpArgs false

--OWNPART impl_suffixes
/-! ### impl_suffixes: function 38, by hand -/
--IMPORT SufW
def impl_suffixes.f (a0 : ByteArray) : Option (List Int) := if a0.size ≤ 1048576 then some (Suf.sufs a0) else none
theorem impl_suffixes.calls (a0 : ByteArray) (r : List Int) (w : World) (h : impl_suffixes.f a0 = some r) :
    Calls Try.prog 38 #[.string a0] w fun e w' => ∃ v0_ : Value, e = .returned (v0_) ∧ Kd.R (Kd.int .i64) 3 w' w.heap.size (fun _ => True) v0_ r ∧ Below w.heap.size w w' := by
  unfold impl_suffixes.f at h
  split at h
  · rename_i hs
    obtain rfl := Option.some.inj h
    exact Suf.calls a0 w hs
  · cases h

end Go.Proofs.Ytppmigiknidjhaa.PQ
end

section
-- Written by a program of this session (pprint.py) out of the translation's print; Lean checks it.
namespace Go.Proofs.Ytppmigiknidjhaa.PQ
open Go.RowKit Go.Proofs.YtppmigiknidjhaaW.PrintWords Go.Proofs.YtppmigiknidjhaaW.PrintLast Go.Proofs.YtppmigiknidjhaaW.PrintMore
attribute [local go_sem] max2_int min2_int max_two min_two max_three min_three max_four min_four   -- for this text's walks alone
set_option linter.unusedVariables false
set_option linter.unusedSimpArgs false

/-! ### impl_SuffixesOf: function 15 -/
def impl_SuffixesOf.f (a0 : ByteArray) : Option (List Int × Bool) := if (a0.size : Int) > 120 then (some (([] : List Int), false)) else ((impl_suffixes.f a0).bind fun t330 => (some (t330, true)))
set_option maxHeartbeats 8000000 in
set_option maxRecDepth 100000 in
theorem impl_SuffixesOf.calls (a0 : ByteArray) (r1 : List Int) (r2 : Bool) (w : World) (h : impl_SuffixesOf.f a0 = some (r1, r2)) :
    Calls Try.prog 15 #[.string a0] w fun e w' => ∃ v0_ : Value, e = .returned (.tuple #[v0_, .bool r2]) ∧ Kd.R (Kd.int .i64) 3 w' w.heap.size (fun _ => True) v0_ r1 ∧ Below w.heap.size w w' := by
  have HB := Aside0.mk (Below.refl w.heap.size w)
  have H : (if (a0.size : Int) > 120 then (some (([] : List Int), false)) else ((impl_suffixes.f a0).bind fun t330 => (some (t330, true)))) = some (r1, r2) := h
  clear h
  by_cases c2 : (a0.size : Int) > 120
  · rw [if_pos c2] at H
    have c2b0 : decide (120 < (a0.size : Int)) = true := decide_eq_true c2
    have c2b1 : decide (120 < a0.size) = true := decide_eq_true (by omega)
    clear c2
    simp only [Option.some.injEq, Prod.mk.injEq] at H
    obtain ⟨rfl, rfl⟩ := H
    go_enter Try.func15, Try.ntmps15
    go_wp2
    go_ret2
    exact ⟨_, by first | rfl | (simp [errW_none, errW_some] <;> rfl) | (simp [*, errW_none, errW_some] <;> rfl), by first | exact Kd.R_nil _ _ _ _ _ | exact Kd.N_nil _ _ _ _ _ | exact Kd.V_nil _ _ _ _ _ | exact Kd.Q_nil _ _ _ _ _ | exact Kd.S_nil _ _ _ _ _, by repeat (first | (with_reducible first | exact HB.out | apply below_alloc | apply pw_below_drewN | apply below_drew1) | exact HB.out)⟩
  · rw [if_neg c2] at H
    have c2b0 : decide (120 < (a0.size : Int)) = false := decide_eq_false c2
    have c2b1 : decide (120 < a0.size) = false := decide_eq_false (by omega)
    clear c2
    replace H := Option.bind_eq_some_iff.mp H
    obtain ⟨t330, A30, H⟩ := H
    replace H : (some (t330, true)) = some (r1, r2) := H
    have A3 := Aside0.mk A30
    clear A30
    simp only [Option.some.injEq, Prod.mk.injEq] at H
    obtain ⟨rfl, rfl⟩ := H
    go_enter Try.func15, Try.ntmps15
    go_wp2_with (first | ((with_reducible refine gate_callee (f := 38) rfl ?_); refine goesL_ (some 8) rfl rfl Try.func38 (by kernel_rfl) rfl #[.string a0] rfl (by (try simp only [List.map_toArray, List.map_cons, List.map_nil]); first | done | rfl | (simp only [List.length_drop, List.length_take]; rfl)) ?_; (with_reducible refine (impl_suffixes.calls a0 t330 _ A3.out).mono ?_); rintro e w4 ⟨v331, rfl, ho0, hb⟩; refine ⟨_, rfl, ?_⟩; have n0_ := Aside0.mk (Kd.R_lower ho0 (below_size (by repeat (first | (with_reducible first | exact HB.out | apply below_alloc | apply pw_below_drewN | apply below_drew1) | exact HB.out)))); have n1_ := Aside0.mk (below_step (by repeat (first | (with_reducible first | exact HB.out | apply below_alloc | apply pw_below_drewN | apply below_drew1) | exact HB.out)) hb); clear HB; have HO332 := n0_; have HB := n1_; clear n0_ n1_; (try clear hb); (try clear hb2); (try clear hk); (try clear hi); (try clear ho0)))
    go_ret2
    exact ⟨_, by first | rfl | (simp [errW_none, errW_some] <;> rfl) | (simp [*, errW_none, errW_some] <;> rfl), by (with_reducible repeat (first | apply Kd.R_alloc | apply Kd.R_drewN | apply Kd.R_drew)); exact HO332.out, by repeat (first | (with_reducible first | exact HB.out | apply below_alloc | apply pw_below_drewN | apply below_drew1) | exact HB.out)⟩

end Go.Proofs.Ytppmigiknidjhaa.PQ
end

section
-- Written by a program of this session (pprint.py) out of the translation's print; Lean checks it.
namespace Go.Proofs.Ytppmigiknidjhaa.PQ
open Go.RowKit Go.Proofs.YtppmigiknidjhaaW.PrintWords Go.Proofs.YtppmigiknidjhaaW.PrintLast Go.Proofs.YtppmigiknidjhaaW.PrintMore
attribute [local go_sem] max2_int min2_int max_two min_two max_three min_three max_four min_four   -- for this text's walks alone
set_option linter.unusedVariables false
set_option linter.unusedSimpArgs false

/-! ### impl_DistinctIn: function 20 -/
def impl_DistinctIn.l0 : Nat → ByteArray → List Int → Int → List Int → Int → Int → Option (Int × Bool)
  | 0, _, _, _, _, _, _ => none
  | k + 1, x0, x4, x6, x18, x19, x20 => if x20 < x19 then (if 0 ≤ x20 then (if x20 < (x18.length : Int) then (if x20 < (x4.length : Int) then (impl_DistinctIn.l0 k x0 x4 (wrap64 (x6 + (wrap64 ((wrap64 ((x0.size : Int) - (rd x4 x20))) - (rd x18 x20))))) x18 x19 (wrap64 (x20 + 1))) else (none)) else (none)) else (none)) else (some (x6, true))
def impl_DistinctIn.f (k : Nat) (a0 : ByteArray) : Option (Int × Bool) := (impl_SuffixesOf.f a0).bind fun bt398 => (if bt398.2 = true then ((impl_commons.f k a0 bt398.1).bind fun t402 => (impl_DistinctIn.l0 k a0 bt398.1 0 t402 (t402.length : Int) 0)) else (some (0, false)))
theorem impl_DistinctIn.mono_l : ∀ k, (∀ y0 y1 y2 y3 y4 y5, LeO (impl_DistinctIn.l0 k y0 y1 y2 y3 y4 y5) (impl_DistinctIn.l0 (k + 1) y0 y1 y2 y3 y4 y5))
  | 0 => fun _ _ _ _ _ _ r h => by simp [impl_DistinctIn.l0] at h
  | k + 1 => by
    have ih0 := impl_DistinctIn.mono_l k
    · intro y0 y1 y2 y3 y4 y5
      unfold impl_DistinctIn.l0
      repeat' first
      | (with_reducible exact ih0 _ _ _ _ _ _)
      | (with_reducible exact impl_commons.mono _ _ _)
      | (with_reducible exact LeO.refl _)
      | (with_reducible exact LeO.none _)
      | (with_reducible refine LeO.ite ?_ ?_)
      | (with_reducible refine LeO.bind ?_ (fun _ => ?_))
      | exact ih0 _ _ _ _ _ _
      | exact impl_commons.mono _ _ _
      | exact LeO.none _
      | refine LeO.ite ?_ ?_
      | refine LeO.bind ?_ (fun _ => ?_)
theorem impl_DistinctIn.mono : ∀ a0 k, LeO (impl_DistinctIn.f k a0) (impl_DistinctIn.f (k + 1) a0) := by
  intro a0 k
  have ih0 := impl_DistinctIn.mono_l k
  unfold impl_DistinctIn.f
  repeat' first
      | (with_reducible exact ih0 _ _ _ _ _ _)
      | (with_reducible exact impl_commons.mono _ _ _)
      | (with_reducible exact LeO.refl _)
      | (with_reducible exact LeO.none _)
      | (with_reducible refine LeO.ite ?_ ?_)
      | (with_reducible refine LeO.bind ?_ (fun _ => ?_))
      | exact ih0 _ _ _ _ _ _
      | exact impl_commons.mono _ _ _
      | exact LeO.none _
      | refine LeO.ite ?_ ?_
      | refine LeO.bind ?_ (fun _ => ?_)
set_option maxHeartbeats 8000000 in
set_option maxRecDepth 100000 in
theorem impl_DistinctIn.calls (k : Nat) (a0 : ByteArray) (r1 : Int) (r2 : Bool) (w : World) (h : impl_DistinctIn.f k a0 = some (r1, r2)) :
    Calls Try.prog 20 #[.string a0] w fun e w' => e = .returned (.tuple #[.int .i64 r1, .bool r2]) ∧ Below w.heap.size w w' := by
  have HB := Aside0.mk (Below.refl w.heap.size w)
  have H : ((impl_SuffixesOf.f a0).bind fun bt398 => (if bt398.2 = true then ((impl_commons.f k a0 bt398.1).bind fun t402 => (impl_DistinctIn.l0 k a0 bt398.1 0 t402 (t402.length : Int) 0)) else (some (0, false)))) = some (r1, r2) := h
  clear h
  replace H := Option.bind_eq_some_iff.mp H
  obtain ⟨⟨t398, t399⟩, A20, H⟩ := H
  replace H : (if t399 = true then ((impl_commons.f k a0 t398).bind fun t402 => (impl_DistinctIn.l0 k a0 t398 0 t402 (t402.length : Int) 0)) else (some (0, false))) = some (r1, r2) := H
  have A2 := Aside0.mk A20
  clear A20
  by_cases c3 : t399 = true
  · subst c3
    have H1 : ((impl_commons.f k a0 t398).bind fun t402 => (impl_DistinctIn.l0 k a0 t398 0 t402 (t402.length : Int) 0)) = some (r1, r2) := by rw [if_pos rfl] at H; exact H
    clear H
    have H := H1
    clear H1
    replace H := Option.bind_eq_some_iff.mp H
    obtain ⟨t402, A40, H⟩ := H
    replace H : (impl_DistinctIn.l0 k a0 t398 0 t402 (t402.length : Int) 0) = some (r1, r2) := H
    have A4 := Aside0.mk A40
    clear A40
    have H' := Aside0.mk H
    clear H
    go_enter Try.func20, Try.ntmps20
    go_wp2_with (first | ((with_reducible refine gate_callee (f := 15) rfl ?_); refine goesL_ (some 11) rfl rfl Try.func15 (by kernel_rfl) rfl #[.string a0] rfl (by (try simp only [List.map_toArray, List.map_cons, List.map_nil]); first | done | rfl | (simp only [List.length_drop, List.length_take]; rfl)) ?_; (with_reducible refine (impl_SuffixesOf.calls a0 t398 true _ A2.out).mono ?_); rintro e w5 ⟨v400, rfl, ho0, hb⟩; refine ⟨_, rfl, ?_⟩; have n0_ := Aside0.mk (Kd.R_lower ho0 (below_size (by repeat (first | (with_reducible first | exact HB.out | apply below_alloc | apply pw_below_drewN | apply below_drew1) | exact HB.out)))); have n1_ := Aside0.mk (below_step (by repeat (first | (with_reducible first | exact HB.out | apply below_alloc | apply pw_below_drewN | apply below_drew1) | exact HB.out)) hb); clear HB; have HO401 := n0_; have HB := n1_; clear n0_ n1_; (try clear hb); (try clear hb2); (try clear hk); (try clear hi); (try clear ho0); obtain ⟨Ao6, co6, eo6⟩ := Kd.R_slice HO401.out; subst eo6) | ((with_reducible refine gate_callee (f := 40) rfl ?_); refine goesL_ (some 18) rfl rfl Try.func40 (by kernel_rfl) rfl #[.string a0, .slice Ao6 t398.length co6] rfl (by (try simp only [List.map_toArray, List.map_cons, List.map_nil]); first | done | rfl | (simp only [List.length_drop, List.length_take]; rfl)) ?_; (with_reducible refine (impl_commons.calls k a0 _ _ t398 t402 _ ?side1 ?side2 A4.out).mono ?_); (case side1 => repeat (first | exact (Kd.R_reads' HO401.out).2.2 | (with_reducible refine Kd.C_alloc ?_ _) | (with_reducible refine Kd.C_drewN ?_ _) | (with_reducible refine Kd.C_drew ?_))); (case side2 => exact (Kd.R_reads' HO401.out).2.1); rintro e w7 ⟨v403, rfl, ho0, hb⟩; refine ⟨_, rfl, ?_⟩; have n0_ := Aside0.mk (Kd.R_elder' (by (with_reducible repeat (first | apply Kd.R_alloc | apply Kd.R_drewN | apply Kd.R_drew)); exact HO401.out) (Kd.R_base ho0) hb); have n1_ := Aside0.mk (Kd.R_lower (Kd.R_new' ho0 (Kd.R_lt (by (with_reducible repeat (first | apply Kd.R_alloc | apply Kd.R_drewN | apply Kd.R_drew)); exact HO401.out))) (below_size (by repeat (first | (with_reducible first | exact HB.out | apply below_alloc | apply pw_below_drewN | apply below_drew1) | exact HB.out)))); have n2_ := Aside0.mk (below_step (by repeat (first | (with_reducible first | exact HB.out | apply below_alloc | apply pw_below_drewN | apply below_drew1) | exact HB.out)) hb); clear HO401; clear HB; have HO401 := n0_; have HO404 := n1_; have HB := n2_; clear n0_ n1_ n2_; (try clear hb); (try clear hb2); (try clear hk); (try clear hi); (try clear ho0); obtain ⟨Ao8, co8, eo8⟩ := Kd.R_slice HO404.out; subst eo8))
    go_loopg [6, 20] k (fun kq v6 v20 w' => ∃ (x6_1 : Int) (x20_1 : Int), v6 = .int .i64 x6_1 ∧ v20 = .int .i64 x20_1 ∧ Aside0 (impl_DistinctIn.l0 kq a0 t398 x6_1 t402 (t402.length : Int) x20_1 = some (r1, r2)) ∧ Aside0 (kq ≤ k) ∧ Aside0 (Kd.R (Kd.int .i64) 3 w' w.heap.size (fun k_ => some k_ ≠ ((.slice Ao8 t402.length co8) : Value).ownBlock) (.slice Ao6 t398.length co6) t398) ∧ Aside0 (Kd.R (Kd.int .i64) 3 w' w.heap.size (fun k_ => some k_ ≠ ((.slice Ao6 t398.length co6) : Value).ownBlock) (.slice Ao8 t402.length co8) t402) ∧ Aside0 (Below w.heap.size w w'))
    case atStart => exact ⟨(0), (0), (by first | rfl | (simp; done) | (simp [*]; done)), (by first | rfl | (simp; done) | (simp [*]; done)), H', ⟨Nat.le_refl _⟩, ⟨by (with_reducible repeat (first | apply Kd.R_alloc | apply Kd.R_drewN | apply Kd.R_drew)); exact Kd.R_mono HO401.out (fun _ hk => hk.2)⟩, ⟨by (with_reducible repeat (first | apply Kd.R_alloc | apply Kd.R_drewN | apply Kd.R_drew)); exact Kd.R_mono HO404.out (fun _ hk => hk.2)⟩, ⟨by repeat (first | (with_reducible first | exact HB.out | apply below_alloc | apply pw_below_drewN | apply below_drew1) | exact HB.out)⟩⟩
    case round =>
      clear H'
      try clear c1
      try clear c2
      try clear p2
      try clear c3
      try clear c4
      obtain ⟨x6_1, x20_1, rfl, rfl, HA, HK1, HO_4, HO_18, HB⟩ := hrel
      cases gk with
      | zero => exact absurd HA.out (by simp [impl_DistinctIn.l0])
      | succ k1 =>
        have H := HA.out
        clear HA
        simp only [impl_DistinctIn.l0] at H
        by_cases c9 : x20_1 < (t402.length : Int)
        · rw [if_pos c9] at H
          have c9b0 : decide (x20_1 < (t402.length : Int)) = true := decide_eq_true c9
          clear c9
          by_cases c10 : 0 ≤ x20_1
          · rw [if_pos c10] at H
            have c10b0 : decide (0 ≤ x20_1) = true := decide_eq_true c10
            clear c10
            by_cases c11 : x20_1 < (t402.length : Int)
            · rw [if_pos c11] at H
              have c11b0 : decide (x20_1 < (t402.length : Int)) = true := decide_eq_true c11
              clear c11
              by_cases c12 : x20_1 < (t398.length : Int)
              · rw [if_pos c12] at H
                have c12b0 : decide (x20_1 < (t398.length : Int)) = true := decide_eq_true c12
                clear c12
                have H' := Aside0.mk H
                clear H
                have p405 : 0 ≤ (x20_1 : Int) := of_decide_eq_true (by first | (with_reducible assumption) | assumption)
                have q405 : x20_1 < (t402.length : Int) := of_decide_eq_true (by first | (with_reducible assumption) | assumption)
                obtain ⟨ad405, e405, hx405_0⟩ := Kd.at_int (Kd.R_reads' HO_18.out).2.2 x20_1 p405 q405
                cases e405
                replace p405 := eq_true p405
                replace q405 := eq_true q405
                have p406 : 0 ≤ (x20_1 : Int) := of_decide_eq_true (by first | (with_reducible assumption) | assumption)
                have q406 : x20_1 < (t398.length : Int) := of_decide_eq_true (by first | (with_reducible assumption) | assumption)
                obtain ⟨ad406, e406, hx406_0⟩ := Kd.at_int (Kd.R_reads' HO_4.out).2.2 x20_1 p406 q406
                cases e406
                replace p406 := eq_true p406
                replace q406 := eq_true q406
                go_wp2
                go_roundg k1
                case measure => have := HK1.out; omega
                case rel => exact ⟨(wrap64 (x6_1 + (wrap64 ((wrap64 ((a0.size : Int) - (rd t398 x20_1))) - (rd t402 x20_1))))), (wrap64 (x20_1 + 1)), (by first | rfl | (simp; done) | (simp [*]; done)), (by first | rfl | (simp; done) | (simp [*]; done)), H', ⟨by have := HK1.out; omega⟩, ⟨by (with_reducible repeat (first | apply Kd.R_alloc | apply Kd.R_drewN | apply Kd.R_drew)); exact HO_4.out⟩, ⟨by (with_reducible repeat (first | apply Kd.R_alloc | apply Kd.R_drewN | apply Kd.R_drew)); exact HO_18.out⟩, ⟨by repeat (first | (with_reducible first | exact HB.out | apply below_alloc | apply pw_below_drewN | apply below_drew1) | exact HB.out)⟩⟩
              · rw [if_neg c12] at H
                exact absurd H (by simp)
            · rw [if_neg c11] at H
              exact absurd H (by simp)
          · rw [if_neg c10] at H
            exact absurd H (by simp)
        · rw [if_neg c9] at H
          have c9b0 : decide (x20_1 < (t402.length : Int)) = false := decide_eq_false c9
          clear c9
          simp only [Option.some.injEq, Prod.mk.injEq] at H
          obtain ⟨rfl, rfl⟩ := H
          go_wp2
          go_ret2
          exact ⟨by first | rfl | (simp [errW_none, errW_some] <;> rfl) | (simp [*, errW_none, errW_some] <;> rfl), by repeat (first | (with_reducible first | exact HB.out | apply below_alloc | apply pw_below_drewN | apply below_drew1) | exact HB.out)⟩
  · replace c3 := Bool.eq_false_iff.mpr c3
    subst c3
    have H1 : (some (0, false)) = some (r1, r2) := by rw [if_neg (show ¬ (false = true) by decide)] at H; exact H
    clear H
    have H := H1
    clear H1
    simp only [Option.some.injEq, Prod.mk.injEq] at H
    obtain ⟨rfl, rfl⟩ := H
    go_enter Try.func20, Try.ntmps20
    go_wp2_with (first | ((with_reducible refine gate_callee (f := 15) rfl ?_); refine goesL_ (some 11) rfl rfl Try.func15 (by kernel_rfl) rfl #[.string a0] rfl (by (try simp only [List.map_toArray, List.map_cons, List.map_nil]); first | done | rfl | (simp only [List.length_drop, List.length_take]; rfl)) ?_; (with_reducible refine (impl_SuffixesOf.calls a0 t398 false _ A2.out).mono ?_); rintro e w13 ⟨v400, rfl, ho0, hb⟩; refine ⟨_, rfl, ?_⟩; have n0_ := Aside0.mk (Kd.R_lower ho0 (below_size (by repeat (first | (with_reducible first | exact HB.out | apply below_alloc | apply pw_below_drewN | apply below_drew1) | exact HB.out)))); have n1_ := Aside0.mk (below_step (by repeat (first | (with_reducible first | exact HB.out | apply below_alloc | apply pw_below_drewN | apply below_drew1) | exact HB.out)) hb); clear HB; have HO401 := n0_; have HB := n1_; clear n0_ n1_; (try clear hb); (try clear hb2); (try clear hk); (try clear hi); (try clear ho0)))
    go_ret2
    exact ⟨by first | rfl | (simp [errW_none, errW_some] <;> rfl) | (simp [*, errW_none, errW_some] <;> rfl), by repeat (first | (with_reducible first | exact HB.out | apply below_alloc | apply pw_below_drewN | apply below_drew1) | exact HB.out)⟩

end Go.Proofs.Ytppmigiknidjhaa.PQ
end

section
/- The reference's endings in order are the program's. No conditions. -/
namespace Go.Proofs.Ytppmigiknidjhaa.Suf
set_option linter.unusedVariables false
open Go.RowKit Go.Sort Go.Proofs.Ytppmigiknidjhaa.PQ Go.Proofs.YtppmigiknidjhaaW.PrintWords Go.Proofs.YtppmigiknidjhaaW.PrintLast Go.Proofs.Ytppmigiknidjhaa.Pre Go.Proofs.Ytppmigiknidjhaa.Srt

theorem perm_sorted_eq {α : Type} {r : α → α → Prop} (has : ∀ a b, r a b → r b a → False) : ∀ {l1 l2 : List α}, l1.Perm l2 → l1.Pairwise r → l2.Pairwise r → l1 = l2
  | [], l2, h, _, _ => by
    have := h.length_eq
    exact (List.eq_nil_of_length_eq_zero this.symm).symm
  | a :: l1, [], h, _, _ => by
    have := h.length_eq
    cases this
  | a :: l1, b :: l2, h, h1, h2 => by
    rw [List.pairwise_cons] at h1 h2
    have hab : a = b := by
      have ha : a ∈ b :: l2 := h.mem_iff.1 List.mem_cons_self
      have hb : b ∈ a :: l1 := h.mem_iff.2 List.mem_cons_self
      rcases List.mem_cons.1 ha with e | ha
      · exact e
      · rcases List.mem_cons.1 hb with e | hb
        · exact e.symm
        · exact (has a b (h1.1 b hb) (h2.1 a ha)).elim
    subst hab
    rw [perm_sorted_eq has (List.Perm.cons_inv h) h1.2 h2.2]

/-- A place stands ahead of another one. -/
def ltI (s : ByteArray) (x y : Int) : Prop := ltS (suf s x.toNat) (suf s y.toNat) = true
theorem ltI_asymm (s : ByteArray) (a b : Int) (h1 : ltI s a b) (h2 : ltI s b a) : False := by
  have := ltS_asymm h1
  unfold ltI at h2
  rw [this] at h2
  cases h2
theorem ltI_tri (s : ByteArray) (x y : Nat) (hx : x ≤ s.size) (hy : y ≤ s.size) (h : ¬ ltI s x y) (hne : x ≠ y) : ltI s y x := by
  unfold ltI at *
  simp only [Int.toNat_natCast] at *
  cases h2 : ltS (suf s y) (suf s x) with
  | true => rfl
  | false =>
    have e := congrArg ByteArray.size (ltS_tri (Bool.eq_false_iff.2 h) h2)
    rw [suf_size _ _ hx, suf_size _ _ hy] at e
    omega
theorem ltI_trans (s : ByteArray) {a b c : Int} (h1 : ltI s a b) (h2 : ltI s b c) : ltI s a c := ltS_trans h1 h2

def upTo (n : Nat) : List Int := (List.range n).map (fun j : Nat => (j : Int))
theorem sufs_perm (s : ByteArray) : (sufs s).Perm (upTo s.size) := by
  have h := filled_all s
  unfold filled at h
  rw [Nat.sub_self, List.replicate_zero, List.append_nil] at h
  unfold upTo
  rw [h]
  exact (List.mergeSort_perm _ _).map _
theorem places_nodup (s : ByteArray) : (places s).Nodup := by
  unfold List.Nodup
  rw [List.pairwise_iff_getElem]
  intro i j hi hj hij e
  have := congrArg Fin.val e
  simp [places] at this
  omega
theorem takeWhile_all {α : Type} (p : α → Bool) : ∀ (l : List α), ∀ x ∈ l.takeWhile p, p x = true
  | [], x, h => by cases h
  | a :: l, x, h => by
    rw [List.takeWhile_cons] at h
    split at h
    · rename_i hp
      rcases List.mem_cons.1 h with rfl | h
      · exact hp
      · exact takeWhile_all p l x h
    · cases h
theorem sufs_sorted (s : ByteArray) : (sufs s).Pairwise (ltI s) := by
  unfold sufs
  rw [List.pairwise_map]
  have h1 : (sufP s).Pairwise (fun a b => (!(ltOf cfP) b a) = true) := by
    unfold sufP
    refine List.pairwise_mergeSort ?_ ?_ _
    · intro a b c h1 h2
      simp only [Bool.not_eq_true'] at *
      exact swoP.ntrans _ _ _ h2 h1
    · intro a b
      simp only [Bool.or_eq_true, Bool.not_eq_true']
      cases h : ltOf cfP b a with
      | false => exact .inl rfl
      | true =>
        right
        rw [ltP] at *
        exact ltS_asymm h
  have h2 : (sufP s).Nodup := (List.Perm.nodup_iff (List.mergeSort_perm _ _)).2 (places_nodup s)
  refine (List.Pairwise.and h1 h2).imp ?_
  rintro a b ⟨h3, h4⟩
  simp only [Bool.not_eq_true'] at h3
  rw [ltP] at h3
  unfold ltI
  rw [Int.toNat_natCast, Int.toNat_natCast]
  cases h5 : ltS (suf s a.1) (suf s b.1) with
  | true => rfl
  | false => exact absurd (totP a b (by rw [ltP]; exact h5) (by rw [ltP]; exact h3)) h4
theorem sufs_len (s : ByteArray) : (sufs s).length = s.size := by
  rw [(sufs_perm s).length_eq]
  simp [upTo]
theorem sufs_mem (s : ByteArray) : ∀ x ∈ sufs s, ∃ i : Nat, x = (i : Int) ∧ i < s.size := by
  intro x hx
  have := (sufs_perm s).mem_iff.1 hx
  unfold upTo at this
  obtain ⟨i, hi, rfl⟩ := List.mem_map.1 this
  exact ⟨i, rfl, by simpa using hi⟩

/-- The places from one on. -/
def fromOn (s : ByteArray) (i : Nat) : List Int := (List.range (s.size - i)).map (fun j : Nat => ((i + j : Nat) : Int))
theorem fromOn_cons (s : ByteArray) (i : Nat) (h : i < s.size) : fromOn s i = (i : Int) :: fromOn s (i + 1) := by
  unfold fromOn
  rw [show s.size - i = (s.size - (i + 1)) + 1 by omega, List.range_succ_eq_map, List.map_cons, List.map_map]
  congr 1
  apply List.map_congr_left
  intro j _
  show ((i + (j + 1) : Nat) : Int) = ((i + 1 + j : Nat) : Int)
  omega
theorem take_while_len {α : Type} (p : α → Bool) : ∀ l : List α, l.take (l.takeWhile p).length = l.takeWhile p ∧ l.drop (l.takeWhile p).length = l.dropWhile p
  | [] => by simp
  | a :: l => by
    have ih := take_while_len p l
    by_cases h : p a = true
    · simp [h, ih]
    · simp [h]
theorem spec_suf (s : ByteArray) (hs : s.size ≤ 1048576) : ∀ (n : Nat) (out : List Int), n ≤ s.size → out.Perm (fromOn s n) → out.Pairwise (ltI s) →
    Evt (fun k => spec_l12Suffixes.l0 k s out ((n : Int) - 1)) (sufs s) := by
  intro n
  induction n with
  | zero =>
    intro out hn hp ho
    refine Evt.step (fun k => spec_l12Suffixes.l0.eq_2 _ _ _ k) (Evt.neg (by omega) ((Evt.const _).eq ?_))
    refine perm_sorted_eq (ltI_asymm s) (hp.trans ?_) ho (sufs_sorted s)
    refine List.Perm.trans (List.Perm.of_eq ?_) (sufs_perm s).symm
    unfold fromOn upTo
    simp
  | succ n ih =>
    intro out hn hp ho
    have hlen : out.length = s.size - (n + 1) := by
      rw [hp.length_eq]
      simp [fromOn]
    have hmem : ∀ x ∈ out, ∃ i : Nat, x = (i : Int) ∧ n + 1 ≤ i ∧ i < s.size := by
      intro x hx
      have := hp.mem_iff.1 hx
      unfold fromOn at this
      obtain ⟨j, hj, rfl⟩ := List.mem_map.1 this
      have : j < s.size - (n + 1) := by simpa using hj
      exact ⟨n + 1 + j, rfl, by omega, by omega⟩
    have e0 : ((n + 1 : Nat) : Int) - 1 = (n : Int) := by omega
    rw [e0]
    let p : Int → Bool := fun x => ltS (suf s x.toNat) (suf s n)
    let out2 : List Int := out.takeWhile p ++ (n : Int) :: out.dropWhile p
    have hperm2 : out2.Perm (fromOn s n) := by
      rw [fromOn_cons s n (by omega)]
      refine List.Perm.trans List.perm_middle ?_
      rw [List.takeWhile_append_dropWhile]
      exact List.Perm.cons _ hp
    have hdrop : ∀ x ∈ out.dropWhile p, ltI s (n : Int) x := by
      cases hd : out.dropWhile p with
      | nil => intro x hx; cases hx
      | cons a r =>
        have hna : p a = false := by
          have := List.head?_dropWhile_not p out
          rw [hd] at this
          simpa using this
        have hsub : List.Sublist (a :: r) out := hd ▸ List.dropWhile_sublist p
        obtain ⟨i, rfl, hi1, hi2⟩ := hmem a (hsub.subset List.mem_cons_self)
        have h1 : ltI s (n : Int) (i : Int) := ltI_tri s i n (by omega) (by omega) (by
          unfold ltI
          rw [Int.toNat_natCast, Int.toNat_natCast]
          intro h
          have h2 : ltS (suf s ((i : Int)).toNat) (suf s n) = false := hna
          rw [Int.toNat_natCast, h] at h2
          cases h2) (by omega)
        intro x hx
        rcases List.mem_cons.1 hx with rfl | hx
        · exact h1
        · exact ltI_trans s h1 ((List.pairwise_cons.1 (ho.sublist hsub)).1 x hx)
    have hsort2 : out2.Pairwise (ltI s) := by
      refine List.pairwise_append.2 ⟨ho.sublist (List.takeWhile_sublist p), List.pairwise_cons.2 ⟨hdrop, ho.sublist (List.dropWhile_sublist p)⟩, ?_⟩
      intro a ha b hb
      have hpa : ltI s a (n : Int) := by
        have := takeWhile_all p out a ha
        unfold ltI
        rw [Int.toNat_natCast]
        exact this
      rcases List.mem_cons.1 hb with rfl | hb
      · exact hpa
      · exact ltI_trans s hpa (hdrop b hb)
    have hend := ih out2 (by omega) hperm2 hsort2
    have hbytes : ∀ i : Nat, i ≤ s.size → suf s i = s.extract ((i : Int)).toNat s.size := fun i _ => by rw [Int.toNat_natCast]; rfl
    -- the places behind it are passed over
    have key : ∀ (m j : Nat), j + m = out.length → (∀ t, t < j → ∃ h : t < out.length, p out[t] = true) → Evt (fun k => spec_l12Suffixes.l1 k s out (n : Int) (j : Int)) (sufs s) := by
      have fin : ∀ j : Nat, j = (out.takeWhile p).length → Evt (fun k => if (j : Int) ≤ (out.length : Int) then ((some (out.take ((j : Int)).toNat : List Int)).bind fun y102 => (if ([] : List Int).length + y102.length < 17592186044416 then ((some (([] : List Int) ++ y102 : List Int)).bind fun y106 => (if y106.length < 17592186044416 then ((some (y106 ++ [(n : Int)] : List Int)).bind fun y109 => ((some (out.drop ((j : Int)).toNat : List Int)).bind fun y112 => (if y109.length + y112.length < 17592186044416 then (spec_l12Suffixes.l0 k s (y109 ++ y112) (wrap64 ((n : Int) - 1))) else (none)))) else (none))) else (none))) else (none)) (sufs s) := by
        intro j hj
        have hjl : j ≤ out.length := by rw [hj]; exact (List.takeWhile_sublist p).length_le
        refine Evt.pos (by omega) (Evt.bsome ?_)
        rw [Int.toNat_natCast]
        obtain ⟨ht, hd⟩ := take_while_len p out
        rw [hj, ht, hd]
        have h1 : (out.takeWhile p).length ≤ out.length := (List.takeWhile_sublist p).length_le
        have h2 : (out.dropWhile p).length ≤ out.length := (List.dropWhile_sublist p).length_le
        refine Evt.pos (by simp; omega) (Evt.bsome (Evt.pos (by simp; omega) (Evt.bsome (Evt.bsome (Evt.pos (by simp; omega) ?_)))))
        rw [w64 (n := (n : Int) - 1) (by omega) (by omega)]
        refine Evt.congr (fun k => ?_) hend
        show spec_l12Suffixes.l0 k s ([] ++ out.takeWhile p ++ [(n : Int)] ++ out.dropWhile p) _ = spec_l12Suffixes.l0 k s out2 _
        congr 1
        simp [out2]
      have tw : ∀ j : Nat, j ≤ out.length → (∀ t, t < j → ∃ h : t < out.length, p out[t] = true) → (∀ h : j < out.length, p out[j] = false) → j = (out.takeWhile p).length := by
        intro j hj h1 h2
        have e : out = out.take j ++ out.drop j := (List.take_append_drop j out).symm
        have h3 : ∀ x ∈ out.take j, p x = true := by
          intro x hx
          obtain ⟨t, ht, rfl⟩ := List.mem_iff_getElem.1 hx
          have ht2 : t < j := by
            have := ht
            rw [List.length_take] at this
            omega
          obtain ⟨h, hp⟩ := h1 t ht2
          rw [List.getElem_take]
          exact hp
        have h4 : (out.takeWhile p) = out.take j := by
          conv => lhs; rw [e]
          rw [List.takeWhile_append_of_pos h3]
          have h5 : (out.drop j).takeWhile p = [] := by
            by_cases hlt : j < out.length
            · rw [List.drop_eq_getElem_cons hlt, List.takeWhile_cons, if_neg (by rw [h2 hlt]; decide)]
            · rw [List.drop_eq_nil_of_le (by omega)]
              rfl
          rw [h5, List.append_nil]
        rw [h4, List.length_take]
        omega
      intro m
      induction m with
      | zero =>
        intro j hj hpre
        refine Evt.step (fun k => spec_l12Suffixes.l1.eq_2 _ _ _ _ k) (Evt.neg (by omega) (Evt.pos (by omega) (fin j (tw j (by omega) hpre (fun h => by omega)))))
      | succ m ih2 =>
        intro j hj hpre
        have hlt : j < out.length := by omega
        obtain ⟨i, hi, hi1, hi2⟩ := hmem out[j] (List.getElem_mem hlt)
        refine Evt.step (fun k => spec_l12Suffixes.l1.eq_2 _ _ _ _ k) (Evt.pos (by omega) (Evt.pos (by omega) ?_))
        rw [Ints.rd_get out j hlt, hi]
        refine Evt.pos (by omega) (Evt.pos (by omega) (Evt.pos (by omega) (Evt.pos (by omega) ?_)))
        have ep : Op.bytesLess ((s.extract ((i : Int)).toNat s.size).toList) ((s.extract ((n : Int)).toNat s.size).toList) = p out[j] := by
          rw [hi]
          show _ = ltS (suf s ((i : Int)).toNat) (suf s n)
          rw [Int.toNat_natCast, Int.toNat_natCast]
          rfl
        rw [ep]
        by_cases hpj : p out[j] = true
        · refine Evt.pos hpj ?_
          rw [w64 (n := (j : Int) + 1) (by omega) (by omega)]
          refine ih2 (j + 1) (by omega) (fun t ht => ?_)
          by_cases htj : t = j
          · subst htj
            exact ⟨hlt, hpj⟩
          · exact hpre t (by omega)
        · exact Evt.neg hpj (fin j (tw j (by omega) hpre (fun h => by simpa using hpj)))
    refine Evt.step (fun k => spec_l12Suffixes.l0.eq_2 _ _ _ k) (Evt.pos (by omega) ?_)
    exact key out.length 0 (by omega) (fun t ht => by omega)
theorem spec_suffixes (s : ByteArray) (hs : s.size ≤ 1048576) : Evt (fun k => spec_l12Suffixes.f k s) (sufs s) := by
  unfold spec_l12Suffixes.f
  rw [w64 (by omega) (by omega)]
  refine spec_suf s hs s.size [] (by omega) ?_ List.Pairwise.nil
  unfold fromOn
  simp
theorem impl_suffixes_eq (s : ByteArray) (hs : s.size ≤ 1048576) : impl_suffixes.f s = some (sufs s) := by
  unfold impl_suffixes.f
  rw [if_pos hs]
end Go.Proofs.Ytppmigiknidjhaa.Suf
end

section
-- Written by a program of this session (pprint.py) out of the translation's print; Lean checks it.
namespace Go.Proofs.Ytppmigiknidjhaa.PQ
open Go.RowKit Go.Proofs.YtppmigiknidjhaaW.PrintWords Go.Proofs.YtppmigiknidjhaaW.PrintLast Go.Proofs.YtppmigiknidjhaaW.PrintMore
attribute [local go_sem] max2_int min2_int max_two min_two max_three min_three max_four min_four   -- for this text's walks alone
set_option linter.unusedVariables false
set_option linter.unusedSimpArgs false

/-! ### impl_IsSuffixes: function 25 -/
def impl_IsSuffixes.f (k : Nat) (a0 : ByteArray) (l1 : List Int) : Option (Bool × Bool) := if (a0.size : Int) > 120 then (some (false, false)) else ((impl_suffixes.f a0).bind fun t198 => ((slices_Equal_int_int.f k t198 l1).bind fun t201 => (some (t201, true))))
theorem impl_IsSuffixes.mono : ∀ a0 a1 k, LeO (impl_IsSuffixes.f k a0 a1) (impl_IsSuffixes.f (k + 1) a0 a1) := by
  intro a0 a1 k
  unfold impl_IsSuffixes.f
  repeat' first
      | (with_reducible exact slices_Equal_int_int.mono _ _ _)
      | (with_reducible exact LeO.refl _)
      | (with_reducible exact LeO.none _)
      | (with_reducible refine LeO.ite ?_ ?_)
      | (with_reducible refine LeO.bind ?_ (fun _ => ?_))
      | exact slices_Equal_int_int.mono _ _ _
      | exact LeO.none _
      | refine LeO.ite ?_ ?_
      | refine LeO.bind ?_ (fun _ => ?_)
set_option maxHeartbeats 8000000 in
set_option maxRecDepth 100000 in
theorem impl_IsSuffixes.calls (k : Nat) (a0 : ByteArray) (A1 : Option Addr) (c1 : Nat) (l1 : List Int) (r1 : Bool) (r2 : Bool) (w : World) (hr1 : Kd.C (Kd.int .i64) w A1 l1.length l1) (hc1 : l1.length ≤ c1) (h : impl_IsSuffixes.f k a0 l1 = some (r1, r2)) :
    Calls Try.prog 25 #[.string a0, .slice A1 l1.length c1] w fun e w' => e = .returned (.tuple #[.bool r1, .bool r2]) ∧ Below w.heap.size w w' := by
  have HR1 := Aside0.mk hr1
  have HC1 := Aside0.mk hc1
  clear hr1 hc1
  have HB := Aside0.mk (Below.refl w.heap.size w)
  have H : (if (a0.size : Int) > 120 then (some (false, false)) else ((impl_suffixes.f a0).bind fun t198 => ((slices_Equal_int_int.f k t198 l1).bind fun t201 => (some (t201, true))))) = some (r1, r2) := h
  clear h
  by_cases c3 : (a0.size : Int) > 120
  · rw [if_pos c3] at H
    have c3b0 : decide (120 < (a0.size : Int)) = true := decide_eq_true c3
    have c3b1 : decide (120 < a0.size) = true := decide_eq_true (by omega)
    clear c3
    simp only [Option.some.injEq, Prod.mk.injEq] at H
    obtain ⟨rfl, rfl⟩ := H
    go_enter Try.func25, Try.ntmps25
    go_wp2
    go_ret2
    exact ⟨by first | rfl | (simp [errW_none, errW_some] <;> rfl) | (simp [*, errW_none, errW_some] <;> rfl), by repeat (first | (with_reducible first | exact HB.out | apply below_alloc | apply pw_below_drewN | apply below_drew1) | exact HB.out)⟩
  · rw [if_neg c3] at H
    have c3b0 : decide (120 < (a0.size : Int)) = false := decide_eq_false c3
    have c3b1 : decide (120 < a0.size) = false := decide_eq_false (by omega)
    clear c3
    replace H := Option.bind_eq_some_iff.mp H
    obtain ⟨t198, A40, H⟩ := H
    replace H : ((slices_Equal_int_int.f k t198 l1).bind fun t201 => (some (t201, true))) = some (r1, r2) := H
    have A4 := Aside0.mk A40
    clear A40
    replace H := Option.bind_eq_some_iff.mp H
    obtain ⟨t201, A50, H⟩ := H
    replace H : (some (t201, true)) = some (r1, r2) := H
    have A5 := Aside0.mk A50
    clear A50
    simp only [Option.some.injEq, Prod.mk.injEq] at H
    obtain ⟨rfl, rfl⟩ := H
    go_enter Try.func25, Try.ntmps25
    go_wp2_with (first | ((with_reducible refine gate_callee (f := 38) rfl ?_); refine goesL_ (some 10) rfl rfl Try.func38 (by kernel_rfl) rfl #[.string a0] rfl (by (try simp only [List.map_toArray, List.map_cons, List.map_nil]); first | done | rfl | (simp only [List.length_drop, List.length_take]; rfl)) ?_; (with_reducible refine (impl_suffixes.calls a0 t198 _ A4.out).mono ?_); rintro e w6 ⟨v199, rfl, ho0, hb⟩; refine ⟨_, rfl, ?_⟩; have n0_ := Aside0.mk (Kd.R_lower ho0 (below_size (by repeat (first | (with_reducible first | exact HB.out | apply below_alloc | apply pw_below_drewN | apply below_drew1) | exact HB.out)))); have n1_ := Aside0.mk (below_step (by repeat (first | (with_reducible first | exact HB.out | apply below_alloc | apply pw_below_drewN | apply below_drew1) | exact HB.out)) hb); clear HB; have HO200 := n0_; have HB := n1_; clear n0_ n1_; (try clear hb); (try clear hb2); (try clear hk); (try clear hi); (try clear ho0); obtain ⟨Ao7, co7, eo7⟩ := Kd.R_slice HO200.out; subst eo7) | ((with_reducible refine gate_callee (f := 42) rfl ?_); refine goesL_ (some 12) rfl rfl Try.func42 (by kernel_rfl) rfl #[.slice Ao7 t198.length co7, .slice A1 l1.length c1] rfl (by (try simp only [List.map_toArray, List.map_cons, List.map_nil]); first | done | rfl | (simp only [List.length_drop, List.length_take]; rfl)) ?_; (with_reducible refine (slices_Equal_int_int.calls k _ _ t198 _ _ l1 t201 _ ?side1 ?side2 ?side3 ?side4 A5.out).mono ?_); (case side1 => repeat (first | exact (Kd.R_reads' HO200.out).2.2 | (with_reducible refine Kd.C_alloc ?_ _) | (with_reducible refine Kd.C_drewN ?_ _) | (with_reducible refine Kd.C_drew ?_))); (case side2 => exact (Kd.R_reads' HO200.out).2.1); (case side3 => repeat (first | exact (Kd.C_below HR1.out HB.out) | (with_reducible refine Kd.C_alloc ?_ _) | (with_reducible refine Kd.C_drewN ?_ _) | (with_reducible refine Kd.C_drew ?_))); (case side4 => exact HC1.out); rintro e w' ⟨rfl, ⟨nd, rfl⟩⟩; refine ⟨_, rfl, ?_⟩))
    go_ret2
    exact ⟨by first | rfl | (simp [errW_none, errW_some] <;> rfl) | (simp [*, errW_none, errW_some] <;> rfl), by repeat (first | (with_reducible first | exact HB.out | apply below_alloc | apply pw_below_drewN | apply below_drew1) | exact HB.out)⟩

end Go.Proofs.Ytppmigiknidjhaa.PQ
end

section
-- Written by a program of this session (pprint.py) out of the translation's print; Lean checks it.
namespace Go.Proofs.Ytppmigiknidjhaa.PQ
open Go.RowKit Go.Proofs.YtppmigiknidjhaaW.PrintWords Go.Proofs.YtppmigiknidjhaaW.PrintLast Go.Proofs.YtppmigiknidjhaaW.PrintMore
attribute [local go_sem] max2_int min2_int max_two min_two max_three min_three max_four min_four   -- for this text's walks alone
set_option linter.unusedVariables false
set_option linter.unusedSimpArgs false

/-! ### impl_isSuffixes: function 50 -/
def impl_isSuffixes.f (k : Nat) (a0 : ByteArray) (l1 : List Int) : Option (Bool) := (impl_IsSuffixes.f k a0 l1).bind fun bt202 => (if bt202.1 = true then (some bt202.2) else (some false))
theorem impl_isSuffixes.mono : ∀ a0 a1 k, LeO (impl_isSuffixes.f k a0 a1) (impl_isSuffixes.f (k + 1) a0 a1) := by
  intro a0 a1 k
  unfold impl_isSuffixes.f
  repeat' first
      | (with_reducible exact impl_IsSuffixes.mono _ _ _)
      | (with_reducible exact LeO.refl _)
      | (with_reducible exact LeO.none _)
      | (with_reducible refine LeO.ite ?_ ?_)
      | (with_reducible refine LeO.bind ?_ (fun _ => ?_))
      | exact impl_IsSuffixes.mono _ _ _
      | exact LeO.none _
      | refine LeO.ite ?_ ?_
      | refine LeO.bind ?_ (fun _ => ?_)
set_option maxHeartbeats 8000000 in
set_option maxRecDepth 100000 in
theorem impl_isSuffixes.calls (k : Nat) (a0 : ByteArray) (A1 : Option Addr) (c1 : Nat) (l1 : List Int) (r : Bool) (w : World) (hr1 : Kd.C (Kd.int .i64) w A1 l1.length l1) (hc1 : l1.length ≤ c1) (h : impl_isSuffixes.f k a0 l1 = some r) :
    Calls Try.prog 50 #[.string a0, .slice A1 l1.length c1] w fun e w' => e = .returned (.bool r) ∧ Below w.heap.size w w' := by
  have HR1 := Aside0.mk hr1
  have HC1 := Aside0.mk hc1
  clear hr1 hc1
  have HB := Aside0.mk (Below.refl w.heap.size w)
  have H : ((impl_IsSuffixes.f k a0 l1).bind fun bt202 => (if bt202.1 = true then (some bt202.2) else (some false))) = some r := h
  clear h
  replace H := Option.bind_eq_some_iff.mp H
  obtain ⟨⟨t202, t203⟩, A30, H⟩ := H
  replace H : (if t202 = true then (some t203) else (some false)) = some r := H
  have A3 := Aside0.mk A30
  clear A30
  by_cases c4 : t202 = true
  · subst c4
    have H1 : (some t203) = some r := by rw [if_pos rfl] at H; exact H
    clear H
    have H := H1
    clear H1
    obtain rfl := Option.some.inj H
    go_enter Try.func50, Try.ntmps50
    go_wp2_with (first | ((with_reducible refine gate_callee (f := 25) rfl ?_); refine goesL_ (some 10) rfl rfl Try.func25 (by kernel_rfl) rfl #[.string a0, .slice A1 l1.length c1] rfl (by (try simp only [List.map_toArray, List.map_cons, List.map_nil]); first | done | rfl | (simp only [List.length_drop, List.length_take]; rfl)) ?_; (with_reducible refine (impl_IsSuffixes.calls k a0 _ _ l1 true t203 _ ?side1 ?side2 A3.out).mono ?_); (case side1 => repeat (first | exact HR1.out | (with_reducible refine Kd.C_alloc ?_ _) | (with_reducible refine Kd.C_drewN ?_ _) | (with_reducible refine Kd.C_drew ?_))); (case side2 => exact HC1.out); rintro e w5 ⟨rfl, hb⟩; refine ⟨_, rfl, ?_⟩; have n0_ := Aside0.mk (below_step (by repeat (first | (with_reducible first | exact HB.out | apply below_alloc | apply pw_below_drewN | apply below_drew1) | exact HB.out)) hb); clear HB; have HB := n0_; clear n0_; (try clear hb); (try clear hb2); (try clear hk); (try clear hi)))
    go_ret
    exact ⟨by first | rfl | (simp [errW_none, errW_some] <;> rfl) | (simp [*, errW_none, errW_some] <;> rfl), by repeat (first | (with_reducible first | exact HB.out | apply below_alloc | apply pw_below_drewN | apply below_drew1) | exact HB.out)⟩
  · replace c4 := Bool.eq_false_iff.mpr c4
    subst c4
    have H1 : (some false) = some r := by rw [if_neg (show ¬ (false = true) by decide)] at H; exact H
    clear H
    have H := H1
    clear H1
    obtain rfl := Option.some.inj H
    go_enter Try.func50, Try.ntmps50
    go_wp2_with (first | ((with_reducible refine gate_callee (f := 25) rfl ?_); refine goesL_ (some 10) rfl rfl Try.func25 (by kernel_rfl) rfl #[.string a0, .slice A1 l1.length c1] rfl (by (try simp only [List.map_toArray, List.map_cons, List.map_nil]); first | done | rfl | (simp only [List.length_drop, List.length_take]; rfl)) ?_; (with_reducible refine (impl_IsSuffixes.calls k a0 _ _ l1 false t203 _ ?side1 ?side2 A3.out).mono ?_); (case side1 => repeat (first | exact HR1.out | (with_reducible refine Kd.C_alloc ?_ _) | (with_reducible refine Kd.C_drewN ?_ _) | (with_reducible refine Kd.C_drew ?_))); (case side2 => exact HC1.out); rintro e w6 ⟨rfl, hb⟩; refine ⟨_, rfl, ?_⟩; have n0_ := Aside0.mk (below_step (by repeat (first | (with_reducible first | exact HB.out | apply below_alloc | apply pw_below_drewN | apply below_drew1) | exact HB.out)) hb); clear HB; have HB := n0_; clear n0_; (try clear hb); (try clear hb2); (try clear hk); (try clear hi)))
    go_ret
    exact ⟨by first | rfl | (simp [errW_none, errW_some] <;> rfl) | (simp [*, errW_none, errW_some] <;> rfl), by repeat (first | (with_reducible first | exact HB.out | apply below_alloc | apply pw_below_drewN | apply below_drew1) | exact HB.out)⟩

end Go.Proofs.Ytppmigiknidjhaa.PQ
end

section
-- Written by a program of this session (pprint.py) out of the translation's print; Lean checks it.
namespace Go.Proofs.Ytppmigiknidjhaa.PQ
open Go.RowKit Go.Proofs.YtppmigiknidjhaaW.PrintWords Go.Proofs.YtppmigiknidjhaaW.PrintLast Go.Proofs.YtppmigiknidjhaaW.PrintMore
attribute [local go_sem] max2_int min2_int max_two min_two max_three min_three max_four min_four   -- for this text's walks alone
set_option linter.unusedVariables false
set_option linter.unusedSimpArgs false

/-! ### impl_CommonOf: function 30 -/
def impl_CommonOf.f (k : Nat) (a0 : ByteArray) (l1 : List Int) : Option (List Int × Bool) := (impl_isSuffixes.f k a0 l1).bind fun t358 => (if t358 = true then ((impl_commons.f k a0 l1).bind fun t359 => (some (t359, true))) else (some (([] : List Int), false)))
theorem impl_CommonOf.mono : ∀ a0 a1 k, LeO (impl_CommonOf.f k a0 a1) (impl_CommonOf.f (k + 1) a0 a1) := by
  intro a0 a1 k
  unfold impl_CommonOf.f
  repeat' first
      | (with_reducible exact impl_commons.mono _ _ _)
      | (with_reducible exact impl_isSuffixes.mono _ _ _)
      | (with_reducible exact LeO.refl _)
      | (with_reducible exact LeO.none _)
      | (with_reducible refine LeO.ite ?_ ?_)
      | (with_reducible refine LeO.bind ?_ (fun _ => ?_))
      | exact impl_commons.mono _ _ _
      | exact impl_isSuffixes.mono _ _ _
      | exact LeO.none _
      | refine LeO.ite ?_ ?_
      | refine LeO.bind ?_ (fun _ => ?_)
set_option maxHeartbeats 8000000 in
set_option maxRecDepth 100000 in
theorem impl_CommonOf.calls (k : Nat) (a0 : ByteArray) (A1 : Option Addr) (c1 : Nat) (l1 : List Int) (r1 : List Int) (r2 : Bool) (w : World) (hr1 : Kd.C (Kd.int .i64) w A1 l1.length l1) (hc1 : l1.length ≤ c1) (h : impl_CommonOf.f k a0 l1 = some (r1, r2)) :
    Calls Try.prog 30 #[.string a0, .slice A1 l1.length c1] w fun e w' => ∃ v0_ : Value, e = .returned (.tuple #[v0_, .bool r2]) ∧ Kd.R (Kd.int .i64) 3 w' w.heap.size (fun _ => True) v0_ r1 ∧ Below w.heap.size w w' := by
  have HR1 := Aside0.mk hr1
  have HC1 := Aside0.mk hc1
  clear hr1 hc1
  have HB := Aside0.mk (Below.refl w.heap.size w)
  have H : ((impl_isSuffixes.f k a0 l1).bind fun t358 => (if t358 = true then ((impl_commons.f k a0 l1).bind fun t359 => (some (t359, true))) else (some (([] : List Int), false)))) = some (r1, r2) := h
  clear h
  replace H := Option.bind_eq_some_iff.mp H
  obtain ⟨t358, A30, H⟩ := H
  replace H : (if t358 = true then ((impl_commons.f k a0 l1).bind fun t359 => (some (t359, true))) else (some (([] : List Int), false))) = some (r1, r2) := H
  have A3 := Aside0.mk A30
  clear A30
  by_cases c4 : t358 = true
  · subst c4
    have H1 : ((impl_commons.f k a0 l1).bind fun t359 => (some (t359, true))) = some (r1, r2) := by rw [if_pos rfl] at H; exact H
    clear H
    have H := H1
    clear H1
    replace H := Option.bind_eq_some_iff.mp H
    obtain ⟨t359, A50, H⟩ := H
    replace H : (some (t359, true)) = some (r1, r2) := H
    have A5 := Aside0.mk A50
    clear A50
    simp only [Option.some.injEq, Prod.mk.injEq] at H
    obtain ⟨rfl, rfl⟩ := H
    go_enter Try.func30, Try.ntmps30
    go_wp2_with (first | ((with_reducible refine gate_callee (f := 50) rfl ?_); refine goesL_ (some 8) rfl rfl Try.func50 (by kernel_rfl) rfl #[.string a0, .slice A1 l1.length c1] rfl (by (try simp only [List.map_toArray, List.map_cons, List.map_nil]); first | done | rfl | (simp only [List.length_drop, List.length_take]; rfl)) ?_; (with_reducible refine (impl_isSuffixes.calls k a0 _ _ l1 true _ ?side1 ?side2 A3.out).mono ?_); (case side1 => repeat (first | exact HR1.out | (with_reducible refine Kd.C_alloc ?_ _) | (with_reducible refine Kd.C_drewN ?_ _) | (with_reducible refine Kd.C_drew ?_))); (case side2 => exact HC1.out); rintro e w6 ⟨rfl, hb⟩; refine ⟨_, rfl, ?_⟩; have n0_ := Aside0.mk (below_step (by repeat (first | (with_reducible first | exact HB.out | apply below_alloc | apply pw_below_drewN | apply below_drew1) | exact HB.out)) hb); clear HB; have HB := n0_; clear n0_; (try clear hb); (try clear hb2); (try clear hk); (try clear hi)) | ((with_reducible refine gate_callee (f := 40) rfl ?_); refine goesL_ (some 12) rfl rfl Try.func40 (by kernel_rfl) rfl #[.string a0, .slice A1 l1.length c1] rfl (by (try simp only [List.map_toArray, List.map_cons, List.map_nil]); first | done | rfl | (simp only [List.length_drop, List.length_take]; rfl)) ?_; (with_reducible refine (impl_commons.calls k a0 _ _ l1 t359 _ ?side1 ?side2 A5.out).mono ?_); (case side1 => repeat (first | exact (Kd.C_below HR1.out HB.out) | (with_reducible refine Kd.C_alloc ?_ _) | (with_reducible refine Kd.C_drewN ?_ _) | (with_reducible refine Kd.C_drew ?_))); (case side2 => exact HC1.out); rintro e w7 ⟨v360, rfl, ho0, hb⟩; refine ⟨_, rfl, ?_⟩; have n0_ := Aside0.mk (Kd.R_lower ho0 (below_size (by repeat (first | (with_reducible first | exact HB.out | apply below_alloc | apply pw_below_drewN | apply below_drew1) | exact HB.out)))); have n1_ := Aside0.mk (below_step (by repeat (first | (with_reducible first | exact HB.out | apply below_alloc | apply pw_below_drewN | apply below_drew1) | exact HB.out)) hb); clear HB; have HO361 := n0_; have HB := n1_; clear n0_ n1_; (try clear hb); (try clear hb2); (try clear hk); (try clear hi); (try clear ho0)))
    go_ret2
    exact ⟨_, by first | rfl | (simp [errW_none, errW_some] <;> rfl) | (simp [*, errW_none, errW_some] <;> rfl), by (with_reducible repeat (first | apply Kd.R_alloc | apply Kd.R_drewN | apply Kd.R_drew)); exact HO361.out, by repeat (first | (with_reducible first | exact HB.out | apply below_alloc | apply pw_below_drewN | apply below_drew1) | exact HB.out)⟩
  · replace c4 := Bool.eq_false_iff.mpr c4
    subst c4
    have H1 : (some (([] : List Int), false)) = some (r1, r2) := by rw [if_neg (show ¬ (false = true) by decide)] at H; exact H
    clear H
    have H := H1
    clear H1
    simp only [Option.some.injEq, Prod.mk.injEq] at H
    obtain ⟨rfl, rfl⟩ := H
    go_enter Try.func30, Try.ntmps30
    go_wp2_with (first | ((with_reducible refine gate_callee (f := 50) rfl ?_); refine goesL_ (some 8) rfl rfl Try.func50 (by kernel_rfl) rfl #[.string a0, .slice A1 l1.length c1] rfl (by (try simp only [List.map_toArray, List.map_cons, List.map_nil]); first | done | rfl | (simp only [List.length_drop, List.length_take]; rfl)) ?_; (with_reducible refine (impl_isSuffixes.calls k a0 _ _ l1 false _ ?side1 ?side2 A3.out).mono ?_); (case side1 => repeat (first | exact HR1.out | (with_reducible refine Kd.C_alloc ?_ _) | (with_reducible refine Kd.C_drewN ?_ _) | (with_reducible refine Kd.C_drew ?_))); (case side2 => exact HC1.out); rintro e w8 ⟨rfl, hb⟩; refine ⟨_, rfl, ?_⟩; have n0_ := Aside0.mk (below_step (by repeat (first | (with_reducible first | exact HB.out | apply below_alloc | apply pw_below_drewN | apply below_drew1) | exact HB.out)) hb); clear HB; have HB := n0_; clear n0_; (try clear hb); (try clear hb2); (try clear hk); (try clear hi)))
    go_ret2
    exact ⟨_, by first | rfl | (simp [errW_none, errW_some] <;> rfl) | (simp [*, errW_none, errW_some] <;> rfl), by first | exact Kd.R_nil _ _ _ _ _ | exact Kd.N_nil _ _ _ _ _ | exact Kd.V_nil _ _ _ _ _ | exact Kd.Q_nil _ _ _ _ _ | exact Kd.S_nil _ _ _ _ _, by repeat (first | (with_reducible first | exact HB.out | apply below_alloc | apply pw_below_drewN | apply below_drew1) | exact HB.out)⟩

end Go.Proofs.Ytppmigiknidjhaa.PQ
end

section
/- What neighbours have in common: the reference's functions and the program's functions. No conditions. -/
namespace Go.Proofs.Ytppmigiknidjhaa.Suf
set_option linter.unusedVariables false
open Go.RowKit Go.Proofs.Ytppmigiknidjhaa.PQ Go.Proofs.YtppmigiknidjhaaW.PrintWords Go.Proofs.YtppmigiknidjhaaW.PrintLast Go.Proofs.Ytppmigiknidjhaa.Pre Go.Proofs.Ytppmigiknidjhaa.Srt

theorem same_ev (a b : List Int) (hl : a.length ≤ 1048576) : Evt (fun k => spec_l12Same.f k a b) (decide (a = b)) := by
  unfold spec_l12Same.f
  by_cases hn : a.length = b.length
  · refine Evt.pos (by omega) ?_
    have key : ∀ (m i : Nat), i + m = a.length → a.take i = b.take i → Evt (fun k => spec_l12Same.l0 k a b (a.length : Int) (i : Int)) (decide (a = b)) := by
      intro m
      induction m with
      | zero =>
        intro i hi ht
        refine Evt.step (fun k => spec_l12Same.l0.eq_2 _ _ _ _ k) (Evt.neg (by omega) ((Evt.const _).eq ?_))
        rw [List.take_of_length_le (by omega), List.take_of_length_le (by omega)] at ht
        exact (decide_eq_true ht).symm
      | succ m ih =>
        intro i hi ht
        refine Evt.step (fun k => spec_l12Same.l0.eq_2 _ _ _ _ k) (Evt.pos (by omega) (Evt.pos (by omega) (Evt.pos (by omega) (Evt.pos (by omega) ?_))))
        rw [Ints.rd_get a i (by omega), Ints.rd_get b i (by omega), w64 (n := (i : Int) + 1) (by omega) (by omega)]
        by_cases he : a[i] = b[i]
        · refine Evt.pos he (ih (i + 1) (by omega) ?_)
          rw [List.take_succ_eq_append_getElem (by omega), List.take_succ_eq_append_getElem (by omega), ht, he]
        · refine Evt.neg he ((Evt.const _).eq ?_)
          refine (decide_eq_false ?_).symm
          intro e
          subst e
          exact he rfl
    exact key a.length 0 (by omega) rfl
  · refine Evt.neg (by omega) ((Evt.const _).eq ?_)
    refine (decide_eq_false ?_).symm
    intro e
    rw [e] at hn
    exact hn rfl
theorem equal_ev (a b : List Int) (hl : a.length ≤ 1048576) : Evt (fun k => slices_Equal_int_int.f k a b) (decide (a = b)) := by
  unfold slices_Equal_int_int.f
  by_cases hn : a.length = b.length
  · refine Evt.pos (by omega) ?_
    have key : ∀ (m i : Nat), i + m = a.length → a.take i = b.take i → Evt (fun k => slices_Equal_int_int.l0 k a b (a.length : Int) (i : Int)) (decide (a = b)) := by
      intro m
      induction m with
      | zero =>
        intro i hi ht
        refine Evt.step (fun k => slices_Equal_int_int.l0.eq_2 _ _ _ _ k) (Evt.neg (by omega) ((Evt.const _).eq ?_))
        rw [List.take_of_length_le (by omega), List.take_of_length_le (by omega)] at ht
        exact (decide_eq_true ht).symm
      | succ m ih =>
        intro i hi ht
        refine Evt.step (fun k => slices_Equal_int_int.l0.eq_2 _ _ _ _ k) (Evt.pos (by omega) (Evt.pos (by omega) (Evt.pos (by omega) (Evt.pos (by omega) ?_))))
        rw [Ints.rd_get a i (by omega), Ints.rd_get b i (by omega), w64 (n := (i : Int) + 1) (by omega) (by omega)]
        by_cases he : a[i] = b[i]
        · refine Evt.pos he (ih (i + 1) (by omega) ?_)
          rw [List.take_succ_eq_append_getElem (by omega), List.take_succ_eq_append_getElem (by omega), ht, he]
        · refine Evt.neg he ((Evt.const _).eq ?_)
          refine (decide_eq_false ?_).symm
          intro e
          subst e
          exact he rfl
    exact key a.length 0 (by omega) rfl
  · refine Evt.neg (by omega) ((Evt.const _).eq ?_)
    refine (decide_eq_false ?_).symm
    intro e
    rw [e] at hn
    exact hn rfl

/-- How many bytes two lists have in common at their beginnings. -/
def comL : List Int → List Int → Nat
  | x :: xs, y :: ys => if x = y then comL xs ys + 1 else 0
  | _, _ => 0
theorem comL_le : ∀ a b : List Int, comL a b ≤ a.length ∧ comL a b ≤ b.length
  | [], _ => by simp [comL]
  | _ :: _, [] => by simp [comL]
  | x :: xs, y :: ys => by
    have := comL_le xs ys
    unfold comL
    split
    · simp only [List.length_cons]
      omega
    · simp
def com (a b : ByteArray) : Nat := comL (bytesOf a) (bytesOf b)
theorem com_le (a b : ByteArray) : com a b ≤ a.size ∧ com a b ≤ b.size := by
  have := comL_le (bytesOf a) (bytesOf b)
  rw [bytesOf_length, bytesOf_length] at this
  exact this
theorem drop_bt (a : ByteArray) (i : Nat) (h : i < a.size) : (bytesOf a).drop i = bt a (i : Int) :: (bytesOf a).drop (i + 1) := by
  rw [List.drop_eq_getElem_cons (by rw [bytesOf_length]; exact h), Byt.bytesOf_get a i h]
theorem drop_end (a : ByteArray) (i : Nat) (h : a.size ≤ i) : (bytesOf a).drop i = [] := by
  rw [List.drop_eq_nil_iff, bytesOf_length]
  exact h
theorem specCom_ev (a b : ByteArray) (ha : a.size ≤ 1048576) : Evt (fun k => spec_l12Common.f k a b) (com a b : Int) := by
  unfold spec_l12Common.f
  have key : ∀ (m i : Nat), i + m = a.size → Evt (fun k => spec_l12Common.l0 k a b (i : Int)) ((i + comL ((bytesOf a).drop i) ((bytesOf b).drop i) : Nat) : Int) := by
    intro m
    induction m with
    | zero =>
      intro i hi
      rw [drop_end a i (by omega)]
      refine Evt.step (fun k => spec_l12Common.l0.eq_2 _ _ _ k) (Evt.neg (by omega) ((Evt.const _).eq ?_))
      simp [comL]
    | succ m ih =>
      intro i hi
      refine Evt.step (fun k => spec_l12Common.l0.eq_2 _ _ _ k) (Evt.pos (by omega) ?_)
      rw [drop_bt a i (by omega)]
      by_cases hb : i < b.size
      · rw [drop_bt b i hb]
        refine Evt.pos (by omega) (Evt.pos (by omega) ?_)
        simp only [comL]
        by_cases he : bt a (i : Int) = bt b (i : Int)
        · rw [if_pos he]
          refine Evt.pos he ?_
          rw [w64 (n := (i : Int) + 1) (by omega) (by omega)]
          refine (ih (i + 1) (by omega)).eq ?_
          omega
        · rw [if_neg he]
          exact Evt.neg he ((Evt.const _).eq (by simp))
      · rw [drop_end b i (by omega)]
        exact Evt.neg (by omega) ((Evt.const _).eq (by simp [comL]))
  refine (key a.size 0 (by omega)).eq ?_
  simp [com]
theorem implCom_ev (a b : ByteArray) (ha : a.size ≤ 1048576) : Evt (fun k => impl_common.f k a b) (com a b : Int) := by
  unfold impl_common.f
  have key : ∀ (m i : Nat), i + m = a.size → Evt (fun k => impl_common.l0 k a b (i : Int)) ((i + comL ((bytesOf a).drop i) ((bytesOf b).drop i) : Nat) : Int) := by
    intro m
    induction m with
    | zero =>
      intro i hi
      rw [drop_end a i (by omega)]
      refine Evt.step (fun k => impl_common.l0.eq_2 _ _ _ k) (Evt.neg (by omega) ((Evt.const _).eq ?_))
      simp [comL]
    | succ m ih =>
      intro i hi
      refine Evt.step (fun k => impl_common.l0.eq_2 _ _ _ k) (Evt.pos (by omega) ?_)
      rw [drop_bt a i (by omega)]
      by_cases hb : i < b.size
      · rw [drop_bt b i hb]
        refine Evt.pos (by omega) (Evt.pos (by omega) ?_)
        simp only [comL]
        by_cases he : bt a (i : Int) = bt b (i : Int)
        · rw [if_pos he]
          refine Evt.pos he ?_
          rw [w64 (n := (i : Int) + 1) (by omega) (by omega)]
          refine (ih (i + 1) (by omega)).eq ?_
          omega
        · rw [if_neg he]
          exact Evt.neg he ((Evt.const _).eq (by simp))
      · rw [drop_end b i (by omega)]
        exact Evt.neg (by omega) ((Evt.const _).eq (by simp [comL]))
  refine (key a.size 0 (by omega)).eq ?_
  simp [com]

/-- What a place has in common with the one ahead. -/
def comAt (s : ByteArray) (l : List Int) (i : Nat) : Int := if i = 0 then 0 else (com (suf s (l.getD (i - 1) 0).toNat) (suf s (l.getD i 0).toNat) : Int)
def coms (s : ByteArray) (l : List Int) : List Int := (List.range l.length).map (comAt s l)
def Within (s : ByteArray) (l : List Int) : Prop := ∀ x ∈ l, ∃ i : Nat, x = (i : Int) ∧ i ≤ s.size
theorem within_get {s : ByteArray} {l : List Int} (h : Within s l) (i : Nat) (hi : i < l.length) : 0 ≤ rd l (i : Int) ∧ rd l (i : Int) ≤ (s.size : Int) ∧ rd l (i : Int) = l.getD i 0 := by
  obtain ⟨j, e, hj⟩ := h _ (List.getElem_mem hi)
  rw [Ints.rd_get l i hi]
  refine ⟨by omega, by omega, by simp [hi]⟩
theorem ext_suf (s : ByteArray) (i : Nat) : s.extract i s.size = suf s i := rfl
theorem suf_le (s : ByteArray) (i : Nat) : (suf s i).size ≤ s.size := by
  unfold suf
  rw [ByteArray.size_extract]
  omega
theorem commons_ev (s : ByteArray) (hs : s.size ≤ 1048576) (l : List Int) (hl : l.length ≤ 1048576) (hw : Within s l) : Evt (fun k => impl_commons.f k s l) (coms s l) := by
  unfold impl_commons.f
  refine Evt.pos (by omega) (Evt.pos (by omega) ?_)
  by_cases hz : l.length = 0
  · have e : l = [] := List.eq_nil_of_length_eq_zero hz
    subst e
    exact Evt.step (fun k => impl_commons.l0.eq_2 _ _ _ _ k) (Evt.neg (by simp) (Evt.const _))
  · have h := fillFrom (L := fun k acc i => impl_commons.l0 k s l acc i) (f := comAt s l) (n := l.length) 1 (by omega) ?_ ?_ (List.replicate ((l.length : Int)).toNat 0) (by simp) ?_
    · exact h
    · intro acc ha
      exact Evt.step (fun k => impl_commons.l0.eq_2 _ _ _ _ k) (Evt.neg (by omega) (Evt.const _))
    · intro acc i r hi1 hi ha hr
      obtain ⟨a1, a2, a3⟩ := within_get hw (i - 1) (by omega)
      obtain ⟨b1, b2, b3⟩ := within_get hw i hi
      have ei : ((i - 1 : Nat) : Int) = (i : Int) - 1 := by omega
      rw [ei] at a1 a2 a3
      refine Evt.step (fun k => impl_commons.l0.eq_2 _ _ _ _ k) (Evt.pos (by omega) ?_)
      rw [w64 (n := (i : Int) - 1) (by omega) (by omega), w64 (n := (i : Int) + 1) (by omega) (by omega), a3, b3]
      rw [a3] at a1 a2
      rw [b3] at b1 b2
      refine Evt.pos (by omega) (Evt.pos (by omega) (Evt.pos a1 (Evt.pos a2 (Evt.pos (by omega) (Evt.pos b1 (Evt.pos b2 ?_))))))
      rw [ext_suf, ext_suf]
      refine Evt.bind (implCom_ev _ _ (Nat.le_trans (suf_le _ _) hs)) (Evt.pos (by omega) ?_)
      have e : comAt s l i = (com (suf s (l.getD (i - 1) 0).toNat) (suf s (l.getD i 0).toNat) : Int) := by
        unfold comAt
        rw [if_neg (by omega)]
      rw [← e]
      exact hr
    · intro j hj
      obtain rfl : j = 0 := by omega
      rw [List.getElem?_replicate, if_pos (by omega)]
      rfl
theorem specIs_ev (s : ByteArray) (l : List Int) (hl : l.length ≤ 1048576) : Evt (fun k => spec_l12Is.f k s l) (decide (s.size ≤ 120 ∧ l = sufs s)) := by
  unfold spec_l12Is.f
  by_cases h : s.size ≤ 120
  · refine Evt.pos (by omega) (Evt.bind (spec_suffixes s (by omega)) (Evt.bind (same_ev l (sufs s) hl) ((Evt.const _).eq ?_)))
    simp [h]
  · refine Evt.neg (by omega) ((Evt.const _).eq ?_)
    simp [h]
theorem implIs_ev (s : ByteArray) (l : List Int) : Evt (fun k => impl_IsSuffixes.f k s l) (if s.size ≤ 120 then (decide (l = sufs s), true) else (false, false)) := by
  unfold impl_IsSuffixes.f
  by_cases h : s.size ≤ 120
  · rw [if_pos h, impl_suffixes_eq s (by omega)]
    refine Evt.neg (by omega) (Evt.bsome (Evt.bind (equal_ev (sufs s) l (by rw [sufs_len]; omega)) ((Evt.const _).eq ?_)))
    exact congrArg (fun b => (b, true)) (decide_eq_decide.2 eq_comm)
  · rw [if_neg h]
    exact Evt.pos (by omega) (Evt.const _)
theorem implIs2_ev (s : ByteArray) (l : List Int) : Evt (fun k => impl_isSuffixes.f k s l) (decide (s.size ≤ 120 ∧ l = sufs s)) := by
  unfold impl_isSuffixes.f
  refine Evt.bind (implIs_ev s l) ?_
  by_cases h : s.size ≤ 120
  · rw [if_pos h]
    by_cases e : l = sufs s
    · exact Evt.pos (by simpa using e) ((Evt.const _).eq (by simp [h, e]))
    · exact Evt.neg (by simpa using e) ((Evt.const _).eq (by simp [h, e]))
  · rw [if_neg h]
    exact Evt.neg (by simp) ((Evt.const _).eq (by simp [h]))
theorem sufs_within (s : ByteArray) : Within s (sufs s) := by
  intro x hx
  obtain ⟨i, e, hi⟩ := sufs_mem s x hx
  exact ⟨i, e, by omega⟩
/-- How many unlike texts are told of by the first places. -/
def distTo (s : ByteArray) (l : List Int) : Nat → Int
  | 0 => 0
  | i + 1 => distTo s l i + ((s.size : Int) - l.getD i 0) - comAt s l i
theorem dist_bound (s : ByteArray) (l : List Int) (hs : s.size ≤ 120) (hw : Within s l) : ∀ i, i ≤ l.length → -(120 * (i : Int)) ≤ distTo s l i ∧ distTo s l i ≤ 120 * (i : Int) := by
  intro i
  induction i with
  | zero => intro _; simp [distTo]
  | succ i ih =>
    intro hi
    have h := ih (by omega)
    obtain ⟨a1, a2, a3⟩ := within_get hw i (by omega)
    rw [a3] at a1 a2
    have hc : 0 ≤ comAt s l i ∧ comAt s l i ≤ (s.size : Int) - l.getD i 0 := by
      unfold comAt
      split
      · omega
      · have := (com_le (suf s (l.getD (i - 1) 0).toNat) (suf s (l.getD i 0).toNat)).2
        rw [suf_size s (l.getD i 0).toNat (by omega)] at this
        omega
    simp only [distTo]
    omega
def ansDist (s : ByteArray) : Int × Bool := if s.size ≤ 120 then (distTo s (sufs s) s.size, true) else (0, false)
theorem at_bound (s : ByteArray) (l : List Int) (hw : Within s l) (i : Nat) (hi : i < l.length) : 0 ≤ comAt s l i ∧ comAt s l i ≤ (s.size : Int) - l.getD i 0 := by
  obtain ⟨a1, a2, a3⟩ := within_get hw i hi
  rw [a3] at a1 a2
  unfold comAt
  split
  · omega
  · have := (com_le (suf s (l.getD (i - 1) 0).toNat) (suf s (l.getD i 0).toNat)).2
    rw [suf_size s (l.getD i 0).toNat (by omega)] at this
    omega
theorem specDist_ev (s : ByteArray) : Evt (fun k => spec_DistinctIn.f k s) (ansDist s) := by
  unfold spec_DistinctIn.f ansDist
  by_cases hs : s.size ≤ 120
  · rw [if_pos hs]
    refine Evt.neg (by omega) (Evt.bind (spec_suffixes s (by omega)) ?_)
    have hw := sufs_within s
    have hll : (sufs s).length = s.size := sufs_len s
    generalize sufs s = l at *
    have key : ∀ (m i : Nat), i + m = l.length → Evt (fun k => spec_DistinctIn.l0 k s l (distTo s l i) l (l.length : Int) (i : Int)) (distTo s l s.size, true) := by
      intro m
      induction m with
      | zero =>
        intro i hi
        refine Evt.step (fun k => spec_DistinctIn.l0.eq_2 _ _ _ _ _ _ k) (Evt.neg (by omega) ((Evt.const _).eq ?_))
        rw [show i = s.size by omega]
      | succ m ih =>
        intro i hi
        have hb := dist_bound s l hs hw i (by omega)
        have hc := at_bound s l hw i (by omega)
        have hr := ih (i + 1) (by omega)
        simp only [distTo] at hr
        obtain ⟨b1, b2, b3⟩ := within_get hw i (by omega)
        refine Evt.step (fun k => spec_DistinctIn.l0.eq_2 _ _ _ _ _ _ k) (Evt.pos (by omega) (Evt.pos (by omega) (Evt.pos (by omega) ?_)))
        rw [w64 (n := (i : Int) + 1) (by omega) (by omega), b3]
        rw [b3] at b1 b2
        rw [w64 (n := (s.size : Int) - l.getD i 0) (by omega) (by omega), w64 (n := distTo s l i + ((s.size : Int) - l.getD i 0)) (by omega) (by omega)]
        by_cases hi0 : 0 < i
        · obtain ⟨a1, a2, a3⟩ := within_get hw (i - 1) (by omega)
          have ei : ((i - 1 : Nat) : Int) = (i : Int) - 1 := by omega
          rw [ei] at a1 a2 a3
          rw [w64 (n := (i : Int) - 1) (by omega) (by omega), a3]
          rw [a3] at a1 a2
          refine Evt.pos (by omega) (Evt.pos (by omega) (Evt.pos (by omega) (Evt.pos a1 (Evt.pos a2 (Evt.pos b1 (Evt.pos b2 ?_))))))
          rw [ext_suf, ext_suf]
          have e : comAt s l i = (com (suf s (l.getD (i - 1) 0).toNat) (suf s (l.getD i 0).toNat) : Int) := by
            unfold comAt
            rw [if_neg (by omega)]
          refine Evt.bind ((specCom_ev _ _ (Nat.le_trans (suf_le _ _) (by omega))).eq e.symm) ?_
          rw [w64 (by omega) (by omega)]
          exact hr
        · obtain rfl : i = 0 := by omega
          have e : comAt s l 0 = 0 := rfl
          rw [e, Int.sub_zero] at hr
          exact Evt.neg (by omega) hr
    exact key l.length 0 (by omega)
  · rw [if_neg hs]
    exact Evt.pos (by omega) (Evt.const _)
/-- What both answer. -/
def ansSuf (s : ByteArray) : List Int × Bool := if s.size ≤ 120 then (sufs s, true) else ([], false)
theorem ansSuf_len (s : ByteArray) : (ansSuf s).1.length ≤ 120 := by
  unfold ansSuf
  split
  · rw [sufs_len]
    assumption
  · simp
theorem specSuf_ev (s : ByteArray) : Evt (fun k => spec_SuffixesOf.f k s) (ansSuf s) := by
  unfold spec_SuffixesOf.f ansSuf
  by_cases h : s.size ≤ 120
  · rw [if_pos h]
    exact Evt.neg (by omega) (Evt.bind (spec_suffixes s (by omega)) (Evt.const _))
  · rw [if_neg h]
    exact Evt.pos (by omega) (Evt.const _)
theorem implSuf_ev (s : ByteArray) : impl_SuffixesOf.f s = some (ansSuf s) := by
  unfold impl_SuffixesOf.f ansSuf
  by_cases h : s.size ≤ 120
  · rw [if_neg (by omega), if_pos h, impl_suffixes_eq s (by omega)]
    rfl
  · rw [if_pos (by omega), if_neg h]
theorem implDist_ev (s : ByteArray) : Evt (fun k => impl_DistinctIn.f k s) (ansDist s) := by
  unfold impl_DistinctIn.f
  rw [implSuf_ev]
  refine Evt.bsome ?_
  unfold ansSuf ansDist
  by_cases hs : s.size ≤ 120
  · rw [if_pos hs, if_pos hs]
    have hw := sufs_within s
    have hll : (sufs s).length = s.size := sufs_len s
    refine Evt.pos rfl (Evt.bind (commons_ev s (by omega) (sufs s) (by omega) hw) ?_)
    show Evt (fun k => impl_DistinctIn.l0 k s (sufs s) 0 (coms s (sufs s)) ((coms s (sufs s)).length : Int) 0) _
    generalize sufs s = l at *
    have hcl : (coms s l).length = l.length := by simp [coms]
    rw [hcl]
    have key : ∀ (m i : Nat), i + m = l.length → Evt (fun k => impl_DistinctIn.l0 k s l (distTo s l i) (coms s l) (l.length : Int) (i : Int)) (distTo s l s.size, true) := by
      intro m
      induction m with
      | zero =>
        intro i hi
        refine Evt.step (fun k => impl_DistinctIn.l0.eq_2 _ _ _ _ _ _ k) (Evt.neg (by omega) ((Evt.const _).eq ?_))
        rw [show i = s.size by omega]
      | succ m ih =>
        intro i hi
        have hb := dist_bound s l hs hw i (by omega)
        have hc := at_bound s l hw i (by omega)
        have hr := ih (i + 1) (by omega)
        simp only [distTo] at hr
        obtain ⟨b1, b2, b3⟩ := within_get hw i (by omega)
        have e : rd (coms s l) (i : Int) = comAt s l i := by
          rw [Ints.rd_get _ i (by omega)]
          simp [coms]
        refine Evt.step (fun k => impl_DistinctIn.l0.eq_2 _ _ _ _ _ _ k) (Evt.pos (by omega) (Evt.pos (by omega) (Evt.pos (by omega) (Evt.pos (by omega) ?_))))
        rw [w64 (n := (i : Int) + 1) (by omega) (by omega), b3, e]
        rw [b3] at b1 b2
        rw [w64 (n := (s.size : Int) - l.getD i 0) (by omega) (by omega), w64 (n := (s.size : Int) - l.getD i 0 - comAt s l i) (by omega) (by omega), w64 (by omega) (by omega)]
        rw [show distTo s l i + ((s.size : Int) - l.getD i 0 - comAt s l i) = distTo s l i + ((s.size : Int) - l.getD i 0) - comAt s l i by omega]
        exact hr
    exact key l.length 0 (by omega)
  · rw [if_neg hs, if_neg hs]
    exact Evt.neg (by simp) (Evt.const _)
end Go.Proofs.Ytppmigiknidjhaa.Suf
end

section
/- Drawn texts: there is always one, and it is short. No conditions. -/
namespace Go.Proofs.Ytppmigiknidjhaa.DrS
set_option linter.unusedVariables false
open Go.RowKit Go.Proofs.Ytppmigiknidjhaa.PQ Go.Proofs.YtppmigiknidjhaaW.PrintWords Go.Proofs.YtppmigiknidjhaaW.PrintLast Go.Proofs.Ytppmigiknidjhaa.Pre Go.Proofs.Ytppmigiknidjhaa.Cur Go.Proofs.Ytppmigiknidjhaa.Suf

theorem of_texts {l0 : List Int} (h : Bytes l0) (at_ st : Int) (h0 : 0 ≤ at_) (h1 : at_ ≤ 1000000) :
    ∃ t a' s', spec_l1Cur_of.f l0 at_ st (([(⟨#[97]⟩ : ByteArray), (⟨#[98]⟩ : ByteArray), (⟨#[97, 98]⟩ : ByteArray), (⟨#[110]⟩ : ByteArray), (⟨#[97, 110, 97]⟩ : ByteArray), (⟨#[97]⟩ : ByteArray)] : List ByteArray)) = some (t, a', s') ∧ t.size ≤ 3 ∧ at_ ≤ a' ∧ a' ≤ at_ + 2 := by
  obtain ⟨t, a', s', e, hm, ha, hb⟩ := of_ev h at_ st _ (by simp : ([(⟨#[97]⟩ : ByteArray), (⟨#[98]⟩ : ByteArray), (⟨#[97, 98]⟩ : ByteArray), (⟨#[110]⟩ : ByteArray), (⟨#[97, 110, 97]⟩ : ByteArray), (⟨#[97]⟩ : ByteArray)] : List ByteArray) ≠ []) h0 (by omega)
  refine ⟨t, a', s', e, ?_, ha, hb⟩
  simp only [List.mem_cons, List.not_mem_nil, or_false] at hm
  rcases hm with rfl | rfl | rfl | rfl | rfl | rfl <;> decide
theorem text_loop {l0 : List Int} (h : Bytes l0) : ∀ (n : Nat) (s : ByteArray) (at_ st : Int), 0 ≤ at_ → at_ + 2 * n ≤ 900000 → s.size + 3 * n ≤ 1000 →
    ∃ t a' s', Evt (fun k => spec_l1Cur_suffixText.l0 k s (n : Int) l0 at_ st) (t, a', s') ∧ t.size ≤ 1000 ∧ at_ ≤ a' ∧ a' ≤ at_ + 2 * n + 2 := by
  intro n
  induction n with
  | zero =>
    intro s at_ st h0 h1 h2
    by_cases hs : (s.size : Int) > 120
    · obtain ⟨b, a', s', e, ha, hb⟩ := one_ev h at_ st 4 h0 (by omega)
      cases b with
      | true => exact ⟨s, a', s', Evt.step (fun k => spec_l1Cur_suffixText.l0.eq_2 _ _ _ _ _ k) (Evt.neg (by omega) (Evt.pos hs (Evt.bind (Evt.of (fun _ => e)) (Evt.pos rfl (Evt.const _))))), by omega, ha, by omega⟩
      | false => exact ⟨s.extract 0 120, a', s', Evt.step (fun k => spec_l1Cur_suffixText.l0.eq_2 _ _ _ _ _ k) (Evt.neg (by omega) (Evt.pos hs (Evt.bind (Evt.of (fun _ => e)) (Evt.neg (by simp) (Evt.pos (by omega) (Evt.pos (by omega) (Evt.const _))))))), by rw [ByteArray.size_extract]; omega, ha, by omega⟩
    · exact ⟨s, at_, st, Evt.step (fun k => spec_l1Cur_suffixText.l0.eq_2 _ _ _ _ _ k) (Evt.neg (by omega) (Evt.neg hs (Evt.const _))), by omega, by omega, by omega⟩
  | succ n ih =>
    intro s at_ st h0 h1 h2
    obtain ⟨t, a1, s1, e, ht, ha, hb⟩ := of_texts h at_ st h0 (by omega)
    have hz : (s ++ t).size = s.size + t.size := ByteArray.size_append
    obtain ⟨t2, a2, s2, e2, h4, h5, h6⟩ := ih (s ++ t) a1 s1 (by omega) (by omega) (by omega)
    refine ⟨t2, a2, s2, Evt.step (fun k => spec_l1Cur_suffixText.l0.eq_2 _ _ _ _ _ k) (Evt.pos (by omega) (Evt.bind (Evt.of (fun _ => e)) (Evt.pos (by show s.size + t.size ≤ _; omega) ?_))), h4, by omega, by omega⟩
    rw [w64 (n := ((n + 1 : Nat) : Int) - 1) (by omega) (by omega), show ((n + 1 : Nat) : Int) - 1 = (n : Int) by omega]
    exact e2
theorem text_ev {l0 : List Int} (h : Bytes l0) : ∃ t a' s', Evt (fun k => spec_l1Cur_suffixText.f k l0 0 0) (t, a', s') ∧ t.size ≤ 1000 ∧ 0 ≤ a' ∧ a' ≤ 1000 := by
  unfold spec_l1Cur_suffixText.f
  obtain ⟨x, a1, s1, e1, hx0, hx1, ha1, hb1⟩ := pick_ev h 0 0 20 (by omega) (by omega)
  obtain ⟨b, a2, s2, e2, ha2, hb2⟩ := one_ev h a1 s1 20 (by omega) (by omega)
  cases b with
  | true =>
    obtain ⟨t, a3, s3, e3, h1, h2, h3⟩ := text_loop h 115 ⟨#[]⟩ a2 s2 (by omega) (by omega) (by show 0 + 3 * 115 ≤ 1000; omega)
    exact ⟨t, a3, s3, Evt.bind (Evt.of (fun _ => e1)) (Evt.bind (Evt.of (fun _ => e2)) (Evt.pos rfl (Evt.step (fun k => spec_l1Cur_suffixText.j0.eq_2 _ _ _ _ _ k) e3))), h1, by omega, by omega⟩
  | false =>
    obtain ⟨n, hn⟩ : ∃ n : Nat, x = (n : Int) := ⟨x.toNat, by omega⟩
    subst hn
    obtain ⟨t, a3, s3, e3, h1, h2, h3⟩ := text_loop h n ⟨#[]⟩ a2 s2 (by omega) (by omega) (by show 0 + 3 * n ≤ 1000; omega)
    exact ⟨t, a3, s3, Evt.bind (Evt.of (fun _ => e1)) (Evt.bind (Evt.of (fun _ => e2)) (Evt.neg (by simp) (Evt.step (fun k => spec_l1Cur_suffixText.j0.eq_2 _ _ _ _ _ k) e3))), h1, by omega, by omega⟩
theorem drawRank {l0 : List Int} (h : Bytes l0) : ∃ t a b, Evt (fun k => spec_DrawRankOf.f k l0) (t, a, b) ∧ t.size ≤ 1000 := by
  obtain ⟨t, a1, s1, e, hz, ha0, ha1⟩ := text_ev h
  obtain ⟨x, a2, s2, e2, hm, hb0, hb1⟩ := among_ev h a1 s1 spec_DrawRankOf.nums (by simp [spec_DrawRankOf.nums]) (by omega) (by omega)
  obtain ⟨y, a3, s3, e3, _⟩ := pick_ev h a2 s2 2 (by omega) (by omega)
  exact ⟨t, x, y, Evt.bind e (Evt.bind (Evt.of (fun _ => e2)) (Evt.bind (Evt.of (fun _ => e3)) (Evt.const _))), hz⟩
theorem sufx_ev {l0 : List Int} (h : Bytes l0) : ∃ t l a' s', Evt (fun k => spec_l1Cur_suffixes.f k l0 0 0) (t, l, a', s') ∧ t.size ≤ 1000 ∧ l.length ≤ 200 ∧ 0 ≤ a' ∧ a' ≤ 2000 := by
  obtain ⟨t, a1, s1, e, hz, ha0, ha1⟩ := text_ev h
  have hl := ansSuf_len t
  unfold spec_l1Cur_suffixes.f
  by_cases h2 : ((ansSuf t).1.length : Int) > 1
  · obtain ⟨b, a2, s2, e2, hb0, hb1⟩ := one_ev h a1 s1 12 (by omega) (by omega)
    cases b with
    | true =>
      refine ⟨t, _, a2, s2, Evt.bind e (Evt.bind (specSuf_ev t) (Evt.pos h2 (Evt.bind (Evt.of (fun _ => e2)) (Evt.pos rfl (Evt.pos (by omega) (Evt.pos (by omega) (Evt.bsome (Evt.pos (by omega) (Evt.bsome (Evt.pos (by simp; omega) (Evt.const _))))))))))), hz, ?_, by omega, by omega⟩
      simp
      omega
    | false => exact ⟨t, _, a2, s2, Evt.bind e (Evt.bind (specSuf_ev t) (Evt.pos h2 (Evt.bind (Evt.of (fun _ => e2)) (Evt.neg (by simp) (Evt.const _))))), hz, by omega, by omega, by omega⟩
  · exact ⟨t, _, a1, s1, Evt.bind e (Evt.bind (specSuf_ev t) (Evt.neg h2 (Evt.const _))), hz, by omega, by omega, by omega⟩
theorem drawFind {l0 : List Int} (h : Bytes l0) : ∃ t l p, Evt (fun k => spec_DrawFindIn.f k l0) (t, l, p) ∧ t.size ≤ 1000 ∧ l.length ≤ 200 := by
  obtain ⟨t, l, a1, s1, e, hz, hl, ha0, ha1⟩ := sufx_ev h
  obtain ⟨p, a2, s2, e2, _⟩ := of_ev h a1 s1 spec_DrawFindIn.texts (by simp [spec_DrawFindIn.texts]) (by omega) (by omega)
  exact ⟨t, l, p, Evt.bind e (Evt.bind (Evt.of (fun _ => e2)) (Evt.const _)), hz, hl⟩
end Go.Proofs.Ytppmigiknidjhaa.DrS
end

section
-- Written by a program of this session (pprint.py) out of the translation's print; Lean checks it.
namespace Go.Proofs.Ytppmigiknidjhaa.PQ
open Go.RowKit Go.Proofs.YtppmigiknidjhaaW.PrintWords Go.Proofs.YtppmigiknidjhaaW.PrintLast Go.Proofs.YtppmigiknidjhaaW.PrintMore
attribute [local go_sem] max2_int min2_int max_two min_two max_three min_three max_four min_four   -- for this text's walks alone
set_option linter.unusedVariables false
set_option linter.unusedSimpArgs false

--IMPORT Pre
/-! ### impl_LongestTwice: function 22 -/
def impl_LongestTwice.l0 : Nat → ByteArray → List Int → ByteArray → List Int → Int → Int → Option (ByteArray × Bool)
  | 0, _, _, _, _, _, _ => none
  | k + 1, x0, x4, x6, x18, x19, x20 => if x20 < x19 then (if 0 ≤ x20 then (if x20 < (x18.length : Int) then (if (rd x18 x20) > (x6.size : Int) then (if x20 < (x4.length : Int) then (if 0 ≤ (rd x4 x20) then (if (rd x4 x20) ≤ (wrap64 ((rd x4 x20) + (rd x18 x20))) then (if (wrap64 ((rd x4 x20) + (rd x18 x20))) ≤ (x0.size : Int) then (impl_LongestTwice.l0 k x0 x4 (x0.extract ((rd x4 x20) : Int).toNat ((wrap64 ((rd x4 x20) + (rd x18 x20))) : Int).toNat) x18 x19 (wrap64 (x20 + 1))) else (none)) else (none)) else (none)) else (none)) else (impl_LongestTwice.l0 k x0 x4 x6 x18 x19 (wrap64 (x20 + 1)))) else (none)) else (none)) else (some (x6, (x6.toList != ([] : List UInt8))))
def impl_LongestTwice.f (k : Nat) (a0 : ByteArray) : Option (ByteArray × Bool) := (impl_SuffixesOf.f a0).bind fun bt340 => (if bt340.2 = true then ((impl_commons.f k a0 bt340.1).bind fun t344 => (impl_LongestTwice.l0 k a0 bt340.1 (⟨#[]⟩ : ByteArray) t344 (t344.length : Int) 0)) else (some ((⟨#[]⟩ : ByteArray), false)))
theorem impl_LongestTwice.mono_l : ∀ k, (∀ y0 y1 y2 y3 y4 y5, LeO (impl_LongestTwice.l0 k y0 y1 y2 y3 y4 y5) (impl_LongestTwice.l0 (k + 1) y0 y1 y2 y3 y4 y5))
  | 0 => fun _ _ _ _ _ _ r h => by simp [impl_LongestTwice.l0] at h
  | k + 1 => by
    have ih0 := impl_LongestTwice.mono_l k
    · intro y0 y1 y2 y3 y4 y5
      unfold impl_LongestTwice.l0
      repeat' first
      | (with_reducible exact ih0 _ _ _ _ _ _)
      | (with_reducible exact impl_commons.mono _ _ _)
      | (with_reducible exact LeO.refl _)
      | (with_reducible exact LeO.none _)
      | (with_reducible refine LeO.ite ?_ ?_)
      | (with_reducible refine LeO.bind ?_ (fun _ => ?_))
      | exact ih0 _ _ _ _ _ _
      | exact impl_commons.mono _ _ _
      | exact LeO.none _
      | refine LeO.ite ?_ ?_
      | refine LeO.bind ?_ (fun _ => ?_)
theorem impl_LongestTwice.mono : ∀ a0 k, LeO (impl_LongestTwice.f k a0) (impl_LongestTwice.f (k + 1) a0) := by
  intro a0 k
  have ih0 := impl_LongestTwice.mono_l k
  unfold impl_LongestTwice.f
  repeat' first
      | (with_reducible exact ih0 _ _ _ _ _ _)
      | (with_reducible exact impl_commons.mono _ _ _)
      | (with_reducible exact LeO.refl _)
      | (with_reducible exact LeO.none _)
      | (with_reducible refine LeO.ite ?_ ?_)
      | (with_reducible refine LeO.bind ?_ (fun _ => ?_))
      | exact ih0 _ _ _ _ _ _
      | exact impl_commons.mono _ _ _
      | exact LeO.none _
      | refine LeO.ite ?_ ?_
      | refine LeO.bind ?_ (fun _ => ?_)
set_option maxHeartbeats 8000000 in
set_option maxRecDepth 100000 in
theorem impl_LongestTwice.calls (k : Nat) (a0 : ByteArray) (r1 : ByteArray) (r2 : Bool) (w : World) (h : impl_LongestTwice.f k a0 = some (r1, r2)) :
    Calls Try.prog 22 #[.string a0] w fun e w' => e = .returned (.tuple #[.string r1, .bool r2]) ∧ Below w.heap.size w w' := by
  have HB := Aside0.mk (Below.refl w.heap.size w)
  have H : ((impl_SuffixesOf.f a0).bind fun bt340 => (if bt340.2 = true then ((impl_commons.f k a0 bt340.1).bind fun t344 => (impl_LongestTwice.l0 k a0 bt340.1 (⟨#[]⟩ : ByteArray) t344 (t344.length : Int) 0)) else (some ((⟨#[]⟩ : ByteArray), false)))) = some (r1, r2) := h
  clear h
  replace H := Option.bind_eq_some_iff.mp H
  obtain ⟨⟨t340, t341⟩, A20, H⟩ := H
  replace H : (if t341 = true then ((impl_commons.f k a0 t340).bind fun t344 => (impl_LongestTwice.l0 k a0 t340 (⟨#[]⟩ : ByteArray) t344 (t344.length : Int) 0)) else (some ((⟨#[]⟩ : ByteArray), false))) = some (r1, r2) := H
  have A2 := Aside0.mk A20
  clear A20
  by_cases c3 : t341 = true
  · subst c3
    have H1 : ((impl_commons.f k a0 t340).bind fun t344 => (impl_LongestTwice.l0 k a0 t340 (⟨#[]⟩ : ByteArray) t344 (t344.length : Int) 0)) = some (r1, r2) := by rw [if_pos rfl] at H; exact H
    clear H
    have H := H1
    clear H1
    replace H := Option.bind_eq_some_iff.mp H
    obtain ⟨t344, A40, H⟩ := H
    replace H : (impl_LongestTwice.l0 k a0 t340 (⟨#[]⟩ : ByteArray) t344 (t344.length : Int) 0) = some (r1, r2) := H
    have A4 := Aside0.mk A40
    clear A40
    have H' := Aside0.mk H
    clear H
    go_enter Try.func22, Try.ntmps22
    go_wp2_with (first | (go_at_call 15; (try simp only [i64_w]); (with_reducible refine (impl_SuffixesOf.calls a0 t340 true _ A2.out).mono ?_); rintro e w5 ⟨v342, rfl, ho0, hb⟩; have n0_ := Aside0.mk (Kd.R_lower ho0 (below_size (by repeat (first | (with_reducible first | exact HB.out | apply below_alloc | apply pw_below_drewN | apply below_drew1) | exact HB.out)))); have n1_ := Aside0.mk (below_step (by repeat (first | (with_reducible first | exact HB.out | apply below_alloc | apply pw_below_drewN | apply below_drew1) | exact HB.out)) hb); clear HB; have HO343 := n0_; have HB := n1_; clear n0_ n1_; (try clear hb); (try clear hb2); (try clear hk); (try clear hi); (try clear ho0); obtain ⟨Ao6, co6, eo6⟩ := Kd.R_slice HO343.out; subst eo6) | (go_at_call 40; (try simp only [i64_w]); (with_reducible refine (impl_commons.calls k a0 _ _ t340 t344 _ ?side1 ?side2 A4.out).mono ?_); (case side1 => repeat (first | exact (Kd.R_reads' HO343.out).2.2 | (with_reducible refine Kd.C_alloc ?_ _) | (with_reducible refine Kd.C_drewN ?_ _) | (with_reducible refine Kd.C_drew ?_))); (case side2 => exact (Kd.R_reads' HO343.out).2.1); rintro e w7 ⟨v345, rfl, ho0, hb⟩; have n0_ := Aside0.mk (Kd.R_elder' (by (with_reducible repeat (first | apply Kd.R_alloc | apply Kd.R_drewN | apply Kd.R_drew)); exact HO343.out) (Kd.R_base ho0) hb); have n1_ := Aside0.mk (Kd.R_lower (Kd.R_new' ho0 (Kd.R_lt (by (with_reducible repeat (first | apply Kd.R_alloc | apply Kd.R_drewN | apply Kd.R_drew)); exact HO343.out))) (below_size (by repeat (first | (with_reducible first | exact HB.out | apply below_alloc | apply pw_below_drewN | apply below_drew1) | exact HB.out)))); have n2_ := Aside0.mk (below_step (by repeat (first | (with_reducible first | exact HB.out | apply below_alloc | apply pw_below_drewN | apply below_drew1) | exact HB.out)) hb); clear HO343; clear HB; have HO343 := n0_; have HO346 := n1_; have HB := n2_; clear n0_ n1_ n2_; (try clear hb); (try clear hb2); (try clear hk); (try clear hi); (try clear ho0); obtain ⟨Ao8, co8, eo8⟩ := Kd.R_slice HO346.out; subst eo8))
    repeat (go_quiet (first | (go_at_call 15; (try simp only [i64_w]); (with_reducible refine (impl_SuffixesOf.calls a0 t340 true _ A2.out).mono ?_); rintro e w5 ⟨v342, rfl, ho0, hb⟩; have n0_ := Aside0.mk (Kd.R_lower ho0 (below_size (by repeat (first | (with_reducible first | exact HB.out | apply below_alloc | apply pw_below_drewN | apply below_drew1) | exact HB.out)))); have n1_ := Aside0.mk (below_step (by repeat (first | (with_reducible first | exact HB.out | apply below_alloc | apply pw_below_drewN | apply below_drew1) | exact HB.out)) hb); clear HB; have HO343 := n0_; have HB := n1_; clear n0_ n1_; (try clear hb); (try clear hb2); (try clear hk); (try clear hi); (try clear ho0); obtain ⟨Ao6, co6, eo6⟩ := Kd.R_slice HO343.out; subst eo6) | (go_at_call 40; (try simp only [i64_w]); (with_reducible refine (impl_commons.calls k a0 _ _ t340 t344 _ ?side1 ?side2 A4.out).mono ?_); (case side1 => repeat (first | exact (Kd.R_reads' HO343.out).2.2 | (with_reducible refine Kd.C_alloc ?_ _) | (with_reducible refine Kd.C_drewN ?_ _) | (with_reducible refine Kd.C_drew ?_))); (case side2 => exact (Kd.R_reads' HO343.out).2.1); rintro e w7 ⟨v345, rfl, ho0, hb⟩; have n0_ := Aside0.mk (Kd.R_elder' (by (with_reducible repeat (first | apply Kd.R_alloc | apply Kd.R_drewN | apply Kd.R_drew)); exact HO343.out) (Kd.R_base ho0) hb); have n1_ := Aside0.mk (Kd.R_lower (Kd.R_new' ho0 (Kd.R_lt (by (with_reducible repeat (first | apply Kd.R_alloc | apply Kd.R_drewN | apply Kd.R_drew)); exact HO343.out))) (below_size (by repeat (first | (with_reducible first | exact HB.out | apply below_alloc | apply pw_below_drewN | apply below_drew1) | exact HB.out)))); have n2_ := Aside0.mk (below_step (by repeat (first | (with_reducible first | exact HB.out | apply below_alloc | apply pw_below_drewN | apply below_drew1) | exact HB.out)) hb); clear HO343; clear HB; have HO343 := n0_; have HO346 := n1_; have HB := n2_; clear n0_ n1_ n2_; (try clear hb); (try clear hb2); (try clear hk); (try clear hi); (try clear ho0); obtain ⟨Ao8, co8, eo8⟩ := Kd.R_slice HO346.out; subst eo8)); try go_wp2_with (first | (go_at_call 15; (try simp only [i64_w]); (with_reducible refine (impl_SuffixesOf.calls a0 t340 true _ A2.out).mono ?_); rintro e w5 ⟨v342, rfl, ho0, hb⟩; have n0_ := Aside0.mk (Kd.R_lower ho0 (below_size (by repeat (first | (with_reducible first | exact HB.out | apply below_alloc | apply pw_below_drewN | apply below_drew1) | exact HB.out)))); have n1_ := Aside0.mk (below_step (by repeat (first | (with_reducible first | exact HB.out | apply below_alloc | apply pw_below_drewN | apply below_drew1) | exact HB.out)) hb); clear HB; have HO343 := n0_; have HB := n1_; clear n0_ n1_; (try clear hb); (try clear hb2); (try clear hk); (try clear hi); (try clear ho0); obtain ⟨Ao6, co6, eo6⟩ := Kd.R_slice HO343.out; subst eo6) | (go_at_call 40; (try simp only [i64_w]); (with_reducible refine (impl_commons.calls k a0 _ _ t340 t344 _ ?side1 ?side2 A4.out).mono ?_); (case side1 => repeat (first | exact (Kd.R_reads' HO343.out).2.2 | (with_reducible refine Kd.C_alloc ?_ _) | (with_reducible refine Kd.C_drewN ?_ _) | (with_reducible refine Kd.C_drew ?_))); (case side2 => exact (Kd.R_reads' HO343.out).2.1); rintro e w7 ⟨v345, rfl, ho0, hb⟩; have n0_ := Aside0.mk (Kd.R_elder' (by (with_reducible repeat (first | apply Kd.R_alloc | apply Kd.R_drewN | apply Kd.R_drew)); exact HO343.out) (Kd.R_base ho0) hb); have n1_ := Aside0.mk (Kd.R_lower (Kd.R_new' ho0 (Kd.R_lt (by (with_reducible repeat (first | apply Kd.R_alloc | apply Kd.R_drewN | apply Kd.R_drew)); exact HO343.out))) (below_size (by repeat (first | (with_reducible first | exact HB.out | apply below_alloc | apply pw_below_drewN | apply below_drew1) | exact HB.out)))); have n2_ := Aside0.mk (below_step (by repeat (first | (with_reducible first | exact HB.out | apply below_alloc | apply pw_below_drewN | apply below_drew1) | exact HB.out)) hb); clear HO343; clear HB; have HO343 := n0_; have HO346 := n1_; have HB := n2_; clear n0_ n1_ n2_; (try clear hb); (try clear hb2); (try clear hk); (try clear hi); (try clear ho0); obtain ⟨Ao8, co8, eo8⟩ := Kd.R_slice HO346.out; subst eo8)))
    go_loopg [6, 20] k (fun kq v6 v20 w' => ∃ (x6_1 : ByteArray) (x20_1 : Int), v6 = .string x6_1 ∧ v20 = .int .i64 x20_1 ∧ Aside0 (impl_LongestTwice.l0 kq a0 t340 x6_1 t344 (t344.length : Int) x20_1 = some (r1, r2)) ∧ Aside0 (kq ≤ k) ∧ Aside0 (Kd.R (Kd.int .i64) 3 w' w.heap.size (fun k_ => some k_ ≠ ((.slice Ao8 t344.length co8) : Value).ownBlock) (.slice Ao6 t340.length co6) t340) ∧ Aside0 (Kd.R (Kd.int .i64) 3 w' w.heap.size (fun k_ => some k_ ≠ ((.slice Ao6 t340.length co6) : Value).ownBlock) (.slice Ao8 t344.length co8) t344) ∧ Aside0 (Below w.heap.size w w'))
    case atStart => exact ⟨((⟨#[]⟩ : ByteArray)), (0), (by first | rfl | (simp; done) | (simp [*]; done)), (by first | rfl | (simp; done) | (simp [*]; done)), H', ⟨Nat.le_refl _⟩, ⟨by (with_reducible repeat (first | apply Kd.R_alloc | apply Kd.R_drewN | apply Kd.R_drew)); exact Kd.R_mono HO343.out (fun _ hk => hk.2)⟩, ⟨by (with_reducible repeat (first | apply Kd.R_alloc | apply Kd.R_drewN | apply Kd.R_drew)); exact Kd.R_mono HO346.out (fun _ hk => hk.2)⟩, ⟨by repeat (first | (with_reducible first | exact HB.out | apply below_alloc | apply pw_below_drewN | apply below_drew1) | exact HB.out)⟩⟩
    case round =>
      clear H'
      try clear c2
      try clear p2
      try clear c3
      obtain ⟨x6_1, x20_1, rfl, rfl, HA, HK1, HO_4, HO_18, HB⟩ := hrel
      cases gk with
      | zero => exact absurd HA.out (by simp [impl_LongestTwice.l0])
      | succ k1 =>
        have H := HA.out
        clear HA
        simp only [impl_LongestTwice.l0] at H
        by_cases c9 : x20_1 < (t344.length : Int)
        · rw [if_pos c9] at H
          have c9b0 : decide (x20_1 < (t344.length : Int)) = true := decide_eq_true c9
          clear c9
          by_cases c10 : 0 ≤ x20_1
          · rw [if_pos c10] at H
            have c10b0 : decide (0 ≤ x20_1) = true := decide_eq_true c10
            clear c10
            by_cases c11 : x20_1 < (t344.length : Int)
            · rw [if_pos c11] at H
              have c11b0 : decide (x20_1 < (t344.length : Int)) = true := decide_eq_true c11
              clear c11
              by_cases c12 : (rd t344 x20_1) > (x6_1.size : Int)
              · rw [if_pos c12] at H
                have c12b0 : decide ((x6_1.size : Int) < (rd t344 x20_1)) = true := decide_eq_true c12
                clear c12
                by_cases c13 : x20_1 < (t340.length : Int)
                · rw [if_pos c13] at H
                  have c13b0 : decide (x20_1 < (t340.length : Int)) = true := decide_eq_true c13
                  clear c13
                  by_cases c14 : 0 ≤ (rd t340 x20_1)
                  · rw [if_pos c14] at H
                    have c14b0 := eq_true c14
                    have c14b1 : decide (0 ≤ (rd t340 x20_1)) = true := decide_eq_true c14
                    clear c14
                    by_cases c15 : (rd t340 x20_1) ≤ (wrap64 ((rd t340 x20_1) + (rd t344 x20_1)))
                    · rw [if_pos c15] at H
                      have c15b0 := eq_true c15
                      have c15b1 : decide ((rd t340 x20_1) ≤ (wrap64 ((rd t340 x20_1) + (rd t344 x20_1)))) = true := decide_eq_true c15
                      by_cases c16 : (wrap64 ((rd t340 x20_1) + (rd t344 x20_1))) ≤ (a0.size : Int)
                      · rw [if_pos c16] at H
                        have c16b0 := eq_true c16
                        have c16b1 : decide ((wrap64 ((rd t340 x20_1) + (rd t344 x20_1))) ≤ (a0.size : Int)) = true := decide_eq_true c16
                        have H' := Aside0.mk H
                        clear H
                        have p347 : 0 ≤ (x20_1 : Int) := of_decide_eq_true (by first | (with_reducible assumption) | assumption)
                        have q347 : x20_1 < (t344.length : Int) := of_decide_eq_true (by first | (with_reducible assumption) | assumption)
                        obtain ⟨ad347, e347, hx347_0⟩ := Kd.at_int (Kd.R_reads' HO_18.out).2.2 x20_1 p347 q347
                        cases e347
                        replace p347 := eq_true p347
                        replace q347 := eq_true q347
                        have p348 : 0 ≤ (x20_1 : Int) := of_decide_eq_true (by first | (with_reducible assumption) | assumption)
                        have q348 : x20_1 < (t340.length : Int) := of_decide_eq_true (by first | (with_reducible assumption) | assumption)
                        obtain ⟨ad348, e348, hx348_0⟩ := Kd.at_int (Kd.R_reads' HO_4.out).2.2 x20_1 p348 q348
                        cases e348
                        replace p348 := eq_true p348
                        replace q348 := eq_true q348
                        have p349 : 0 ≤ (x20_1 : Int) := of_decide_eq_true (by first | (with_reducible assumption) | assumption)
                        have q349 : x20_1 < (t340.length : Int) := of_decide_eq_true (by first | (with_reducible assumption) | assumption)
                        obtain ⟨ad349, e349, hx349_0⟩ := Kd.at_int (Kd.R_reads' HO_4.out).2.2 x20_1 p349 q349
                        obtain rfl : ad348 = ad349 := (by injection e349)
                        replace p349 := eq_true p349
                        replace q349 := eq_true q349
                        go_wp2
                        repeat (go_quiet (fail); try go_wp2)
                        go_roundg k1
                        case measure => have := HK1.out; omega
                        case rel => exact ⟨(a0.extract ((rd t340 x20_1) : Int).toNat ((wrap64 ((rd t340 x20_1) + (rd t344 x20_1))) : Int).toNat), (wrap64 (x20_1 + 1)), (by first | rfl | (simp; done) | (simp [*]; done)), (by first | rfl | (simp; done) | (simp [*]; done)), H', ⟨by have := HK1.out; omega⟩, ⟨by (with_reducible repeat (first | apply Kd.R_alloc | apply Kd.R_drewN | apply Kd.R_drew)); exact HO_4.out⟩, ⟨by (with_reducible repeat (first | apply Kd.R_alloc | apply Kd.R_drewN | apply Kd.R_drew)); exact HO_18.out⟩, ⟨by repeat (first | (with_reducible first | exact HB.out | apply below_alloc | apply pw_below_drewN | apply below_drew1) | exact HB.out)⟩⟩
                      · rw [if_neg c16] at H
                        exact absurd H (by simp)
                    · rw [if_neg c15] at H
                      exact absurd H (by simp)
                  · rw [if_neg c14] at H
                    exact absurd H (by simp)
                · rw [if_neg c13] at H
                  exact absurd H (by simp)
              · rw [if_neg c12] at H
                have c12b0 : decide ((x6_1.size : Int) < (rd t344 x20_1)) = false := decide_eq_false c12
                clear c12
                have H' := Aside0.mk H
                clear H
                have p347 : 0 ≤ (x20_1 : Int) := of_decide_eq_true (by first | (with_reducible assumption) | assumption)
                have q347 : x20_1 < (t344.length : Int) := of_decide_eq_true (by first | (with_reducible assumption) | assumption)
                obtain ⟨ad347, e347, hx347_0⟩ := Kd.at_int (Kd.R_reads' HO_18.out).2.2 x20_1 p347 q347
                cases e347
                replace p347 := eq_true p347
                replace q347 := eq_true q347
                go_wp2
                repeat (go_quiet (fail); try go_wp2)
                go_roundg k1
                case measure => have := HK1.out; omega
                case rel => exact ⟨(x6_1), (wrap64 (x20_1 + 1)), (by first | rfl | (simp; done) | (simp [*]; done)), (by first | rfl | (simp; done) | (simp [*]; done)), H', ⟨by have := HK1.out; omega⟩, ⟨by (with_reducible repeat (first | apply Kd.R_alloc | apply Kd.R_drewN | apply Kd.R_drew)); exact HO_4.out⟩, ⟨by (with_reducible repeat (first | apply Kd.R_alloc | apply Kd.R_drewN | apply Kd.R_drew)); exact HO_18.out⟩, ⟨by repeat (first | (with_reducible first | exact HB.out | apply below_alloc | apply pw_below_drewN | apply below_drew1) | exact HB.out)⟩⟩
            · rw [if_neg c11] at H
              exact absurd H (by simp)
          · rw [if_neg c10] at H
            exact absurd H (by simp)
        · rw [if_neg c9] at H
          have c9b0 : decide (x20_1 < (t344.length : Int)) = false := decide_eq_false c9
          clear c9
          simp only [Option.some.injEq, Prod.mk.injEq] at H
          obtain ⟨rfl, rfl⟩ := H
          go_wp2
          repeat (go_quiet (fail); try go_wp2)
          go_ret2
          exact ⟨by first | rfl | (rw [Go.Proofs.Ytppmigiknidjhaa.Pre.bne_nil]; first | rfl | (simp; done) | (simp <;> rfl)) | (simp [errW_none, errW_some] <;> rfl) | (simp [*, errW_none, errW_some] <;> rfl), by repeat (first | (with_reducible first | exact HB.out | apply below_alloc | apply pw_below_drewN | apply below_drew1) | exact HB.out)⟩
  · replace c3 := Bool.eq_false_iff.mpr c3
    subst c3
    have H1 : (some ((⟨#[]⟩ : ByteArray), false)) = some (r1, r2) := by rw [if_neg (show ¬ (false = true) by decide)] at H; exact H
    clear H
    have H := H1
    clear H1
    simp only [Option.some.injEq, Prod.mk.injEq] at H
    obtain ⟨rfl, rfl⟩ := H
    go_enter Try.func22, Try.ntmps22
    go_wp2_with (first | (go_at_call 15; (try simp only [i64_w]); (with_reducible refine (impl_SuffixesOf.calls a0 t340 false _ A2.out).mono ?_); rintro e w17 ⟨v342, rfl, ho0, hb⟩; have n0_ := Aside0.mk (Kd.R_lower ho0 (below_size (by repeat (first | (with_reducible first | exact HB.out | apply below_alloc | apply pw_below_drewN | apply below_drew1) | exact HB.out)))); have n1_ := Aside0.mk (below_step (by repeat (first | (with_reducible first | exact HB.out | apply below_alloc | apply pw_below_drewN | apply below_drew1) | exact HB.out)) hb); clear HB; have HO343 := n0_; have HB := n1_; clear n0_ n1_; (try clear hb); (try clear hb2); (try clear hk); (try clear hi); (try clear ho0)))
    repeat (go_quiet (first | (go_at_call 15; (try simp only [i64_w]); (with_reducible refine (impl_SuffixesOf.calls a0 t340 false _ A2.out).mono ?_); rintro e w17 ⟨v342, rfl, ho0, hb⟩; have n0_ := Aside0.mk (Kd.R_lower ho0 (below_size (by repeat (first | (with_reducible first | exact HB.out | apply below_alloc | apply pw_below_drewN | apply below_drew1) | exact HB.out)))); have n1_ := Aside0.mk (below_step (by repeat (first | (with_reducible first | exact HB.out | apply below_alloc | apply pw_below_drewN | apply below_drew1) | exact HB.out)) hb); clear HB; have HO343 := n0_; have HB := n1_; clear n0_ n1_; (try clear hb); (try clear hb2); (try clear hk); (try clear hi); (try clear ho0))); try go_wp2_with (first | (go_at_call 15; (try simp only [i64_w]); (with_reducible refine (impl_SuffixesOf.calls a0 t340 false _ A2.out).mono ?_); rintro e w17 ⟨v342, rfl, ho0, hb⟩; have n0_ := Aside0.mk (Kd.R_lower ho0 (below_size (by repeat (first | (with_reducible first | exact HB.out | apply below_alloc | apply pw_below_drewN | apply below_drew1) | exact HB.out)))); have n1_ := Aside0.mk (below_step (by repeat (first | (with_reducible first | exact HB.out | apply below_alloc | apply pw_below_drewN | apply below_drew1) | exact HB.out)) hb); clear HB; have HO343 := n0_; have HB := n1_; clear n0_ n1_; (try clear hb); (try clear hb2); (try clear hk); (try clear hi); (try clear ho0))))
    go_ret2
    exact ⟨by first | rfl | (rw [Go.Proofs.Ytppmigiknidjhaa.Pre.bne_nil]; first | rfl | (simp; done) | (simp <;> rfl)) | (simp [errW_none, errW_some] <;> rfl) | (simp [*, errW_none, errW_some] <;> rfl), by repeat (first | (with_reducible first | exact HB.out | apply below_alloc | apply pw_below_drewN | apply below_drew1) | exact HB.out)⟩

end Go.Proofs.Ytppmigiknidjhaa.PQ
end

section
/- What stands twice longest: the reference and the program. No conditions. -/
namespace Go.Proofs.Ytppmigiknidjhaa.Suf
set_option linter.unusedVariables false
open Go.RowKit Go.Proofs.Ytppmigiknidjhaa.PQ Go.Proofs.YtppmigiknidjhaaW.PrintWords Go.Proofs.YtppmigiknidjhaaW.PrintLast Go.Proofs.Ytppmigiknidjhaa.Pre
end Go.Proofs.Ytppmigiknidjhaa.Suf
end

section
/- What two endings that are neighbours have in common. No conditions. -/
namespace Go.Proofs.Ytppmigiknidjhaa.Suf
set_option linter.unusedVariables false
open Go.RowKit Go.Proofs.Ytppmigiknidjhaa.PQ Go.Proofs.YtppmigiknidjhaaW.PrintWords Go.Proofs.YtppmigiknidjhaaW.PrintLast Go.Proofs.Ytppmigiknidjhaa.Pre Go.Proofs.Ytppmigiknidjhaa.Srt
theorem same_self (l : List Int) (hl : l.length ≤ 1048576) : Evt (fun k => laws_sameInts.f k l l) true := by
  unfold laws_sameInts.f
  refine Evt.pos rfl ?_
  have key : ∀ (m i : Nat), i + m = l.length → Evt (fun k => laws_sameInts.l0 k l l (l.length : Int) (i : Int)) true := by
    intro m
    induction m with
    | zero => intro i hi; exact Evt.step (fun k => laws_sameInts.l0.eq_2 _ _ _ _ k) (Evt.neg (by omega) (Evt.const _))
    | succ m ih =>
      intro i hi
      refine Evt.step (fun k => laws_sameInts.l0.eq_2 _ _ _ _ k) (Evt.pos (by omega) (Evt.pos (by omega) (Evt.pos (by omega) (Evt.pos (by omega) (Evt.pos rfl ?_)))))
      rw [w64 (n := (i : Int) + 1) (by omega) (by omega)]
      exact ih (i + 1) (by omega)
  exact key l.length 0 (by omega)
end Go.Proofs.Ytppmigiknidjhaa.Suf
end

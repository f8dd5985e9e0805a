/- impl.NumberOf, by hand. No conditions. -/
import Derived.Test.YtilgcfhnpnokpaaPre
import Derived.Test.YtilgcfhnpnokpaaPQx0
import Derived.Test.YtilgcfhnpnokpaaPQimplwithin
namespace Go.Proofs.Ytilgcfhnpnokpaa.Num
set_option linter.unusedVariables false
set_option linter.unusedSimpArgs false
open Go.RowKit Go.Proofs.Ytilgcfhnpnokpaa.PQ Go.Proofs.YtilgcfhnpnokpaaW.PrintWords Go.Proofs.YtilgcfhnpnokpaaW.PrintLast Go.Proofs.YtilgcfhnpnokpaaW.PrintMore Go.Proofs.Ytilgcfhnpnokpaa.Pre

theorem at_new (w : World) (o : Obj) : (w.alloc o).heap[w.heap.size]? = some o := by
  show (w.heap.push o)[w.heap.size]? = some o
  simp
theorem at_val (W w' : World) (b : Nat) (a : Int) (hb : Below (W.alloc (.cells #[.int .i64 4, .int .i64 a, .string ⟨#[]⟩, .slice none 0 0, .slice none 0 0] 94)).heap.size (W.alloc (.cells #[.int .i64 4, .int .i64 a, .string ⟨#[]⟩, .slice none 0 0, .slice none 0 0] 94)) w') (e : b = W.heap.size) :
    (w'.cell? ⟨b, 0, none⟩ = some (.int .i64 4) ∧ w'.cell? ⟨b, 1, none⟩ = some (.int .i64 a) ∧ w'.cell? ⟨b, 2, none⟩ = some (.string ⟨#[]⟩)) ∧ w'.cell? ⟨b, 4, none⟩ = some (.slice none 0 0) := by
  subst e
  refine ⟨⟨(hb.cell (by simp)).trans ?_, (hb.cell (by simp)).trans ?_, (hb.cell (by simp)).trans ?_⟩, (hb.cell (by simp)).trans ?_⟩ <;> simp
theorem at_old (w : World) (o : Obj) (k : Nat) (h : k < w.heap.size) : (w.alloc o).heap[k]? = w.heap[k]? := by
  show (w.heap.push o)[k]? = w.heap[k]?
  rw [Array.getElem?_push]
  rw [if_neg (by omega)]
theorem sz1 (w : World) (o : Obj) (nd : Nat) : w.heap.size + 1 = ((w.alloc o).drewN nd).heap.size := by
  show w.heap.size + 1 = (w.heap.push o).size
  simp
theorem sz2 (w : World) (o o' : Obj) (nd : Nat) : (((w.alloc o).drewN nd).alloc o').heap.size = w.heap.size + 2 := by
  show ((w.heap.push o).push o').size = w.heap.size + 2
  simp
theorem cell_of {W : World} {b t : Nat} {v : Value} (h : W.heap[b]? = some (.cells #[v] t (0, 0))) : W.cell? ⟨b, 0, none⟩ = some v ∧ W.frozen? ⟨b, 0, none⟩ = false := by
  constructor
  · unfold World.cell?
    rw [show W.heap[(⟨b, 0, none⟩ : Addr).block]? = _ from h]
    rfl
  · unfold World.frozen?
    rw [show W.heap[(⟨b, 0, none⟩ : Addr).block]? = _ from h]
    rfl
abbrev Nd := S89
def one (n : Int) : List Nd := [⟨4, n, ⟨#[]⟩, ⟨#[]⟩, -1⟩]
set_option maxHeartbeats 1000000 in
set_option maxRecDepth 100000 in
theorem nodes_calls (g : Nat) (n : Int) (w : World) (h : ∀ w', Below w.heap.size w w' → w'.cell? ⟨g, 0, none⟩ = some (.int .i64 4) ∧ w'.cell? ⟨g, 1, none⟩ = some (.int .i64 n) ∧ w'.cell? ⟨g, 2, none⟩ = some (.string ⟨#[]⟩)) (h4 : ∀ w', Below w.heap.size w w' → w'.cell? ⟨g, 4, none⟩ = some (.slice none 0 0)) :
    Calls Try.prog 101 #[.pointer (some ⟨g, 0, none⟩), .slice none 0 0, .string ⟨#[]⟩, .int .i64 (-1)] w fun e w' => ∃ v0_ : Value, e = .returned v0_ ∧ Kd.R k89 89 w' w.heap.size (fun _ => True) v0_ (one n) ∧ Below w.heap.size w w' := by
  have HH := Aside0.mk h
  have H4 := Aside0.mk h4
  clear h h4
  go_enter Try.func101, Try.ntmps101
  go_wp2
  refine start_ (n := 19) (S := fun w' => w'.cell? ⟨g, 0, none⟩ = some (.int .i64 4) ∧ w'.cell? ⟨g, 1, none⟩ = some (.int .i64 n) ∧ w'.cell? ⟨g, 2, none⟩ = some (.string ⟨#[]⟩)) (ds := []) #[false, false, false, false, false, false, false, false, false, false, false, false, false, false, false, false, false, false, false] (by kernel_rfl) rfl rfl ⟨(HH.out w.drew (Below.refl w.heap.size w).drew).1, (HH.out w.drew (Below.refl w.heap.size w).drew).2.1, (HH.out w.drew (Below.refl w.heap.size w).drew).2.2⟩ (fun hHeld => ?_)
  refine pure_ (i := 0) (N := some 15) (v := ?_) (a' := ?_) #[true, false, false, false, false, false, false, false, false, false, false, false, false, false, false, false, false, false, false] rfl rfl (by kernel_rfl) (fun _ _ _ h => h) (Or.inl ⟨by rfl, ?_⟩) ?_ ?_
  rotate_left
  · intro w'
    go_simp
    with_reducible rfl
  rotate_left
  · simp only [Act.put, List.setIfInBounds_toArray, List.set_cons_zero, List.set_cons_succ, i64_w, i32_w]
    rfl
  refine pure_ (i := 1) (N := some 16) (v := ?_) (a' := ?_) #[true, true, false, false, false, false, false, false, false, false, false, false, false, false, false, false, false, false, false] rfl rfl (by kernel_rfl) (fun _ _ _ h => h) (Or.inl ⟨by rfl, ?_⟩) ?_ ?_
  rotate_left
  · intro w'
    go_simp
    with_reducible rfl
  rotate_left
  · simp only [Act.put, List.setIfInBounds_toArray, List.set_cons_zero, List.set_cons_succ, i64_w, i32_w]
    rfl
  refine pure_ (i := 2) (N := some 17) (v := ?_) (a' := ?_) #[true, true, true, false, false, false, false, false, false, false, false, false, false, false, false, false, false, false, false] rfl rfl (by kernel_rfl) (fun _ _ _ h => h) (Or.inl ⟨by rfl, ?_⟩) ?_ ?_
  rotate_left
  · intro w'
    go_simp
    with_reducible rfl
  rotate_left
  · simp only [Act.put, List.setIfInBounds_toArray, List.set_cons_zero, List.set_cons_succ, i64_w, i32_w]
    rfl
  refine pure_ (i := 3) (N := some 18) (v := ?_) (a' := ?_) #[true, true, true, true, false, false, false, false, false, false, false, false, false, false, false, false, false, false, false] rfl rfl (by kernel_rfl) (fun _ _ _ h => h) (Or.inl ⟨by rfl, ?_⟩) ?_ ?_
  rotate_left
  · intro w'
    go_simp
    with_reducible rfl
  rotate_left
  · simp only [Act.put, List.setIfInBounds_toArray, List.set_cons_zero, List.set_cons_succ, i64_w, i32_w]
    rfl
  refine pure_ (i := 5) (N := some 20) (v := ?_) (a' := ?_) #[true, true, true, true, false, true, false, false, false, false, false, false, false, false, false, false, false, false, false] rfl rfl (by kernel_rfl) (fun _ _ _ h => h) (Or.inl ⟨by rfl, ?_⟩) ?_ ?_
  rotate_left
  · intro w'
    go_simp
    with_reducible rfl
  rotate_left
  · simp only [Act.put, List.setIfInBounds_toArray, List.set_cons_zero, List.set_cons_succ, i64_w, i32_w]
    rfl
  refine pure_ (i := 6) (N := some 21) (v := ?_) (a' := ?_) #[true, true, true, true, false, true, true, false, false, false, false, false, false, false, false, false, false, false, false] rfl rfl (by kernel_rfl) (fun _ _ _ h => h) (Or.inl ⟨by rfl, ?_⟩) ?_ ?_
  rotate_left
  · intro w'
    go_simp
    with_reducible rfl
  rotate_left
  · simp only [Act.put, List.setIfInBounds_toArray, List.set_cons_zero, List.set_cons_succ, i64_w, i32_w]
    rfl
  refine pure_ (i := 7) (N := some 22) (v := ?_) (a' := ?_) #[true, true, true, true, false, true, true, true, false, false, false, false, false, false, false, false, false, false, false] rfl rfl (by kernel_rfl) (fun _ _ _ h => h) (Or.inl ⟨by rfl, ?_⟩) ?_ ?_
  rotate_left
  · intro w'
    go_simp
    with_reducible rfl
  rotate_left
  · simp only [Act.put, List.setIfInBounds_toArray, List.set_cons_zero, List.set_cons_succ, i64_w, i32_w]
    rfl
  refine pure_ (i := 9) (N := some 24) (v := ?_) (a' := ?_) #[true, true, true, true, false, true, true, true, false, true, false, false, false, false, false, false, false, false, false] rfl rfl (by kernel_rfl) (fun _ _ _ h => h) (Or.inl ⟨by rfl, ?_⟩) ?_ ?_
  rotate_left
  · intro w'
    go_simp
    with_reducible rfl
  rotate_left
  · simp only [Act.put, List.setIfInBounds_toArray, List.set_cons_zero, List.set_cons_succ, i64_w, i32_w]
    rfl
  refine pure_ (i := 10) (N := some 25) (v := ?_) (a' := ?_) #[true, true, true, true, false, true, true, true, false, true, true, false, false, false, false, false, false, false, false] rfl rfl (by kernel_rfl) (fun _ _ _ h => h) (Or.inl ⟨by rfl, ?_⟩) ?_ ?_
  rotate_left
  · intro w'
    go_simp
    with_reducible rfl
  rotate_left
  · simp only [Act.put, List.setIfInBounds_toArray, List.set_cons_zero, List.set_cons_succ, i64_w, i32_w]
    rfl
  refine pure_ (i := 11) (N := some 26) (v := ?_) (a' := ?_) #[true, true, true, true, false, true, true, true, false, true, true, true, false, false, false, false, false, false, false] rfl rfl (by kernel_rfl) (fun _ _ _ h => h) (Or.inl ⟨by rfl, ?_⟩) ?_ ?_
  rotate_left
  · intro w'
    go_simp
    with_reducible rfl
  rotate_left
  · simp only [Act.put, List.setIfInBounds_toArray, List.set_cons_zero, List.set_cons_succ, i64_w, i32_w]
    rfl
  refine pure_ (i := 13) (N := some 28) (v := ?_) (a' := ?_) #[true, true, true, true, false, true, true, true, false, true, true, true, false, true, false, false, false, false, false] rfl rfl (by kernel_rfl) (fun _ _ _ h => h) (Or.inl ⟨by rfl, ?_⟩) ?_ ?_
  rotate_left
  · intro w'
    go_simp
    with_reducible rfl
  rotate_left
  · simp only [Act.put, List.setIfInBounds_toArray, List.set_cons_zero, List.set_cons_succ, i64_w, i32_w]
    rfl
  refine pure_ (i := 14) (N := some 29) (v := ?_) (a' := ?_) #[true, true, true, true, false, true, true, true, false, true, true, true, false, true, true, false, false, false, false] rfl rfl (by kernel_rfl) (fun _ _ _ h => h) (Or.inl ⟨by rfl, ?_⟩) ?_ ?_
  rotate_left
  · intro w'
    go_simp
    with_reducible rfl
  rotate_left
  · simp only [Act.put, List.setIfInBounds_toArray, List.set_cons_zero, List.set_cons_succ, i64_w, i32_w]
    rfl
  refine take_ (i := 4) (N := some 19) (v := ?_) (a' := ?_) #[true, true, true, true, true, true, true, true, false, true, true, true, false, true, true, false, false, false, false] rfl rfl (by kernel_rfl) (fun _ _ _ h => h) (Or.inl ⟨by rfl, ?_⟩) hHeld ?_ ?_
  rotate_left
  · rintro w' ⟨s0, s1, s2⟩
    go_simp
    with_reducible rfl
  rotate_left
  · simp only [Act.put, List.setIfInBounds_toArray, List.set_cons_zero, List.set_cons_succ, i64_w, i32_w]
    rfl
  refine take_ (i := 8) (N := some 23) (v := ?_) (a' := ?_) #[true, true, true, true, true, true, true, true, true, true, true, true, false, true, true, false, false, false, false] rfl rfl (by kernel_rfl) (fun _ _ _ h => h) (Or.inl ⟨by rfl, ?_⟩) hHeld ?_ ?_
  rotate_left
  · rintro w' ⟨s0, s1, s2⟩
    go_simp
    with_reducible rfl
  rotate_left
  · simp only [Act.put, List.setIfInBounds_toArray, List.set_cons_zero, List.set_cons_succ, i64_w, i32_w]
    rfl
  refine take_ (i := 12) (N := some 27) (v := ?_) (a' := ?_) #[true, true, true, true, true, true, true, true, true, true, true, true, true, true, true, false, false, false, false] rfl rfl (by kernel_rfl) (fun _ _ _ h => h) (Or.inl ⟨by rfl, ?_⟩) hHeld ?_ ?_
  rotate_left
  · rintro w' ⟨s0, s1, s2⟩
    go_simp
    with_reducible rfl
  rotate_left
  · simp only [Act.put, List.setIfInBounds_toArray, List.set_cons_zero, List.set_cons_succ, i64_w, i32_w]
    rfl
  refine pure_ (i := 15) (N := some 30) (v := ?_) (a' := ?_) #[true, true, true, true, true, true, true, true, true, true, true, true, true, true, true, true, false, false, false] rfl rfl (by kernel_rfl) (fun _ _ _ h => h) (Or.inl ⟨by rfl, ?_⟩) ?_ ?_
  rotate_left
  · intro w'
    go_simp
    with_reducible rfl
  rotate_left
  · simp only [Act.put, List.setIfInBounds_toArray, List.set_cons_zero, List.set_cons_succ, i64_w, i32_w]
    rfl
  refine one_ (i := 16) (N := some 31) #[true, true, true, true, true, true, true, true, true, true, true, true, true, true, true, true, true, false, false] rfl rfl (by kernel_rfl) (by decide) (fun K hK => ?_)
  refine value_ (w1 := ?_) (v := ?_) (by rfl) rfl ?_ ?_
  rotate_left 2
  · go_simp
    constructor
    · rfl
    · rfl
  refine hK.out _ _ ⟨(HH.out _ (below_alloc (Below.refl w.heap.size w).drew _)).1, (HH.out _ (below_alloc (Below.refl w.heap.size w).drew _)).2.1, (HH.out _ (below_alloc (Below.refl w.heap.size w).drew _)).2.2⟩ (fun hHeld => ?_)
  clear hK K
  refine norm_ (a' := ?_) ?_ ?_
  rotate_left
  · show Act.put _ (some 31) _ = _
    simp only [Act.put, List.setIfInBounds_toArray, List.set_cons_zero, List.set_cons_succ, i64_w, i32_w]
    rfl
  refine one_ (i := 17) (N := some 32) #[true, true, true, true, true, true, true, true, true, true, true, true, true, true, true, true, true, true, false] rfl rfl (by kernel_rfl) (by decide) (fun K hK => ?_)
  refine Kd.R_append_step k89 (w0 := w) w.heap.size (by rfl) (.tmp 15) (.tmp 31) 39 89 _ 56 rfl Try.underlying39 info89 rfl (by decide) (by decide) (.slice none 0 0) [] (⟨4, n, ⟨#[]⟩, ⟨#[]⟩, -1⟩ : S89) _ (fun _ => True) (fun _ => False) rfl rfl (k89_mkM _ _ _ _) (fun _ h => h.elim) (fun _ _ => trivial) (Kd.R_nil _ _ _ _ _) (Below.refl w.heap.size w).drew (Nat.le_refl _) (by decide) ?_
  intro v1 w1 ho1 hb1 hg1 hat1
  have HO1 := Aside0.mk ho1
  have HB1 := Aside0.mk hb1
  clear hat1 hg1 ho1 hb1
  refine hK.out _ _ ⟨(HH.out _ HB1.out).1, (HH.out _ HB1.out).2.1, (HH.out _ HB1.out).2.2⟩ (fun hHeld => ?_)
  clear hK K
  refine norm_ (a' := ?_) ?_ ?_
  rotate_left
  · show Act.put _ (some 32) _ = _
    simp only [Act.put, List.setIfInBounds_toArray, List.set_cons_zero, List.set_cons_succ, i64_w, i32_w]
    rfl
  refine pure_ (i := 18) (N := some 1) (v := ?_) (a' := ?_) #[true, true, true, true, true, true, true, true, true, true, true, true, true, true, true, true, true, true, true] rfl rfl (by kernel_rfl) (fun _ _ _ h => h) (Or.inl ⟨by rfl, ?_⟩) ?_ ?_
  rotate_left
  · intro w'
    go_simp
    with_reducible rfl
  rotate_left
  · simp only [Act.put, List.setIfInBounds_toArray, List.set_cons_zero, List.set_cons_succ, i64_w, i32_w]
    rfl
  refine done_ (by kernel_rfl) ?_
  have h4c := H4.out w1 HB1.out
  go_wp2
  go_loopg [1, 38] 1 (fun kq v1' v38 w' => v1' = v1 ∧ v38 = .int .i64 0 ∧ w' = w1)
  case atStart => exact ⟨rfl, rfl, rfl⟩
  case round =>
    obtain ⟨rfl, rfl, rfl⟩ := hrel
    go_wp2
    go_ret
    exact ⟨_, rfl, HO1.out, HB1.out⟩
theorem value_calls (g : Nat) (n : Int) (w : World) (h : ∀ w', Below w.heap.size w w' → w'.cell? ⟨g, 0, none⟩ = some (.int .i64 4) ∧ w'.cell? ⟨g, 1, none⟩ = some (.int .i64 n) ∧ w'.cell? ⟨g, 2, none⟩ = some (.string ⟨#[]⟩)) (h4 : ∀ w', Below w.heap.size w w' → w'.cell? ⟨g, 4, none⟩ = some (.slice none 0 0)) :
    Calls Try.prog 69 #[.pointer (some ⟨g, 0, none⟩)] w fun e w' => ∃ v0_ : Value, e = .returned (.agg #[v0_]) ∧ Kd.R k89 89 w' w.heap.size (fun _ => True) v0_ (one n) ∧ Below w.heap.size w w' := by
  have HH := Aside0.mk h
  have H4 := Aside0.mk h4
  clear h h4
  go_enter Try.func69, Try.ntmps69
  go_wp2_with (first | (go_at_call 101; go_loud ((with_reducible refine (nodes_calls g n _ (fun w' hb => HH.out w' (below_then (below_alloc (Below.refl _ _) _) (by simp) hb)) (fun w' hb => H4.out w' (below_then (below_alloc (Below.refl _ _) _) (by simp) hb))).mono ?_); rintro e w2 ⟨v0, rfl, ho, hb⟩; have HO2 := Aside0.mk ho; have HB2 := Aside0.mk (below_then (below_alloc (Below.refl w.heap.size w) _) (by simp) hb); have hc1 := hb.cell (p := ⟨w.heap.size, 0, none⟩) (by first | (simp; done) | (simp; omega)); have hf1 := hb.frozen (p := ⟨w.heap.size, 0, none⟩) (by first | (simp; done) | (simp; omega)); have hN1 := (hb.block w.heap.size (by simp)).trans (at_new w _); simp at hc1 hf1; clear hb; obtain ⟨Av, cv, ev⟩ := Kd.R_slice ho; subst ev; clear ho)))
  refine bodyPost_ret (results_cell_row rfl _ _ w.heap.size 41 #[.slice Av (one n).length cv] (0, 0) _ rfl (by rw [heap_setCell_same _ w.heap.size 0 _ _ _ hN1]; rfl) Try.underlying41 rfl (by kernel_rfl)) rfl ?_
  refine ⟨_, rfl, Kd.R_set (Kd.R_lower HO2.out (by simp)) hN1 (by decide) 0 _, below_set HB2.out (Nat.le_refl _)⟩
theorem calls (a : Int) (w : World) : Calls Try.prog 30 #[.int .i64 a] w fun e w' => ∃ v0_ : Value, e = .returned (.agg #[v0_]) ∧ Kd.R k89 89 w' w.heap.size (fun _ => True) v0_ (one (if -1000000000 ≤ a ∧ a ≤ 1000000000 then a else 0)) ∧ Below w.heap.size w w' := by
  go_enter Try.func30, Try.ntmps30
  have key : ∀ b : Bool, decide (-1000000000 ≤ a ∧ a ≤ 1000000000) = b → impl_within.f a (-1000000000) 1000000000 = some b := by
    intro b hb
    unfold impl_within.f
    by_cases h1 : a ≥ -1000000000
    · rw [if_pos h1, ← hb]
      congr 1
      by_cases h2 : a ≤ 1000000000
      · rw [decide_eq_true h2, decide_eq_true ⟨h1, h2⟩]
      · rw [decide_eq_false h2, decide_eq_false (fun e => h2 e.2)]
    · rw [if_neg h1, ← hb, decide_eq_false (fun e => h1 e.1)]
  by_cases hA : -1000000000 ≤ a ∧ a ≤ 1000000000
  · have HK := Aside0.mk (key true (decide_eq_true hA))
    rw [if_pos hA]
    clear hA key
    go_wp2_with (first | (go_at_call 68; go_loud ((with_reducible refine (impl_within.calls a _ _ _ _ HK.out).mono ?_); rintro e w1 ⟨rfl, ⟨nd, rfl⟩⟩)) | (go_at_call 69; go_loud ((with_reducible refine (value_calls (w.heap.size + 1) a _ (fun w' hb => (at_val _ w' _ a hb (sz1 _ _ _)).1) (fun w' hb => (at_val _ w' _ a hb (sz1 _ _ _)).2)).mono ?_); rintro e w2 ⟨v0, rfl, ho, hb⟩; have HO2 := Aside0.mk ho; have HB2 := Aside0.mk (below_then (below_alloc (pw_below_drewN (below_alloc (Below.refl w.heap.size w) _) nd) _) (by rw [sz2]; omega) hb); have hN1 := (hb.block w.heap.size (by rw [sz2]; show w.heap.size < w.heap.size + 2; omega)).trans (at_old _ _ _ (by rw [← sz1]; omega)); have hN2 := hN1.trans (at_new w _); obtain ⟨hc1, hf1⟩ := cell_of hN2; clear hb hN1; obtain ⟨Av, cv, ev⟩ := Kd.R_slice ho; subst ev; clear ho)))
    refine bodyPost_ret (results_cell_row rfl _ _ w.heap.size 41 #[.slice Av (one a).length cv] (0, 0) _ rfl (by rw [heap_setCell_same _ w.heap.size 0 _ _ _ hN2]; rfl) Try.underlying41 rfl (by kernel_rfl)) rfl ?_
    refine ⟨_, rfl, Kd.R_set (Kd.R_lower HO2.out (by rw [sz2]; omega)) hN2 (by decide) 0 _, below_set HB2.out (Nat.le_refl _)⟩
  · have HK := Aside0.mk (key false (decide_eq_false hA))
    rw [if_neg hA]
    clear hA key
    go_wp2_with (first | (go_at_call 68; go_loud ((with_reducible refine (impl_within.calls a _ _ _ _ HK.out).mono ?_); rintro e w1 ⟨rfl, ⟨nd, rfl⟩⟩)) | (go_at_call 69; go_loud ((with_reducible refine (value_calls (w.heap.size + 1) 0 _ (fun w' hb => (at_val _ w' _ 0 hb (sz1 _ _ _)).1) (fun w' hb => (at_val _ w' _ 0 hb (sz1 _ _ _)).2)).mono ?_); rintro e w2 ⟨v0, rfl, ho, hb⟩; have HO2 := Aside0.mk ho; have HB2 := Aside0.mk (below_then (below_alloc (pw_below_drewN (below_alloc (Below.refl w.heap.size w) _) nd) _) (by rw [sz2]; omega) hb); have hN1 := (hb.block w.heap.size (by rw [sz2]; show w.heap.size < w.heap.size + 2; omega)).trans (at_old _ _ _ (by rw [← sz1]; omega)); have hN2 := hN1.trans (at_new w _); obtain ⟨hc1, hf1⟩ := cell_of hN2; clear hb hN1; obtain ⟨Av, cv, ev⟩ := Kd.R_slice ho; subst ev; clear ho)))
    refine bodyPost_ret (results_cell_row rfl _ _ w.heap.size 41 #[.slice Av (one 0).length cv] (0, 0) _ rfl (by rw [heap_setCell_same _ w.heap.size 0 _ _ _ hN2]; rfl) Try.underlying41 rfl (by kernel_rfl)) rfl ?_
    refine ⟨_, rfl, Kd.R_set (Kd.R_lower HO2.out (by rw [sz2]; omega)) hN2 (by decide) 0 _, below_set HB2.out (Nat.le_refl _)⟩
end Go.Proofs.Ytilgcfhnpnokpaa.Num

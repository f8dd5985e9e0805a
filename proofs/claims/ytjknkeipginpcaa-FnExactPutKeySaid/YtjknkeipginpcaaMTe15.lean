/- Several texts in one: what the claim's last text rests on. No conditions. -/
import Derived.Test.YtjknkeipginpcaaMTe14
import Derived.Lib.Overlaps
import Derived.Lib.AppendZerosOnto
import Derived.Lib.AppendZeros
import Derived.Laws.Externs
import Derived.Laws.IdiomCopy
import Derived.Test.YtjknkeipginpcaaMTe5
import Derived.Test.YtjknkeipginpcaaMTe6
import Derived.Test.YtjknkeipginpcaaMTe11
import Derived.Test.YtjknkeipginpcaaMTe13
import Derived.Test.YtjknkeipginpcaaMTe12
section
/- Treaps: slices.Insert at pairs, one element. No conditions. -/
namespace Go.Proofs.Ytjknkeipginpcaa.TrG
set_option linter.unusedVariables false
set_option linter.unusedSimpArgs false
open Go.RowKit Go.Proofs.Ytjknkeipginpcaa.PQ Go.Proofs.YtjknkeipginpcaaW.PrintWords Go.Proofs.YtjknkeipginpcaaW.PrintLast Go.Proofs.YtjknkeipginpcaaW.PrintMore Go.Proofs.Ytjknkeipginpcaa.Pre Go.Proofs.Ytjknkeipginpcaa.Tr Go.Proofs.Ytjknkeipginpcaa.Pr Go.Proofs.Ytjknkeipginpcaa.Po

/-- A pair's cells. -/
def cel (p : Pa) : List Value := [.string p.f0, .string p.f1]
def cels (xs : List Pa) : List Value := xs.flatMap cel
theorem cels_cons (p : Pa) (xs : List Pa) : cels (p :: xs) = cel p ++ cels xs := rfl
theorem cels_app (xs ys : List Pa) : cels (xs ++ ys) = cels xs ++ cels ys := by simp [cels]
theorem cels_len : ∀ xs : List Pa, (cels xs).length = xs.length * 2
  | [] => rfl
  | p :: xs => by
    rw [cels_cons, List.length_append, cels_len xs, List.length_cons]
    show 2 + _ = _
    omega
theorem cels_take : ∀ (xs : List Pa) (i : Nat), (cels xs).take (i * 2) = cels (xs.take i)
  | [], i => by simp [cels]
  | p :: xs, 0 => by simp [cels]
  | p :: xs, i + 1 => by
    rw [cels_cons, List.take_succ_cons, cels_cons, ← cels_take xs i, List.take_append]
    have : (cel p).length = 2 := rfl
    rw [this, List.take_of_length_le (by rw [this]; omega), show (i + 1) * 2 - 2 = i * 2 by omega]
theorem cels_drop : ∀ (xs : List Pa) (i : Nat), (cels xs).drop (i * 2) = cels (xs.drop i)
  | [], i => by simp [cels]
  | p :: xs, 0 => by simp [cels]
  | p :: xs, i + 1 => by
    rw [cels_cons, List.drop_succ_cons, ← cels_drop xs i, List.drop_append]
    have : (cel p).length = 2 := rfl
    rw [this, List.drop_eq_nil_of_le (by rw [this]; omega), show (i + 1) * 2 - 2 = i * 2 by omega, List.nil_append]
theorem cels_one (xs : List Pa) : ∀ v ∈ cels xs, v.oneCell' = true := by
  intro v hv
  unfold cels at hv
  obtain ⟨p, _, hp⟩ := List.mem_flatMap.1 hv
  unfold cel at hp
  simp at hp
  rcases hp with rfl | rfl <;> rfl
theorem reps_cels : ∀ (xs : List Pa) (R : Pa → List Value → Prop) (hR : ∀ p cs, R p cs → cs = cel p) (inner : List Value), Reps R 2 xs inner → inner = cels xs
  | [], R, hR, inner, h => List.eq_nil_of_length_eq_zero (by have := h.1; simpa using this)
  | p :: xs, R, hR, inner, h => by
    have h0 := hR p _ (h.2 0 p rfl)
    have hl := h.1
    rw [List.length_cons] at hl
    have ht := reps_cels xs R hR (inner.drop 2) ⟨by rw [List.length_drop, hl]; omega, fun j q hq => by
      have := h.2 (j + 1) q hq
      rw [List.drop_drop, show 2 + j * 2 = (j + 1) * 2 by omega]
      exact this⟩
    rw [Nat.zero_mul, List.drop_zero] at h0
    rw [cels_cons, ← h0, ← ht, List.take_append_drop]
theorem cels_reps (xs : List Pa) (R : Pa → List Value → Prop) (hR : ∀ p, R p (cel p)) : Reps R 2 xs (cels xs) := by
  refine ⟨cels_len xs, fun j p hj => ?_⟩
  obtain ⟨hjl, rfl⟩ := List.getElem?_eq_some_iff.1 hj
  rw [cels_drop, List.drop_eq_getElem_cons hjl, cels_cons]
  exact hR _
theorem kM {w : World} {base : Nat} {ok : Nat → Prop} {p : Pa} {cs : List Value} (h : (k80).M w base ok p cs) : cs = cel p := k80_openM h
/-- A row of pairs of one's own, by its block. -/
theorem R_view {w : World} {lo g n c : Nat} {xs : List Pa} (h : Kd.R k80 80 w lo (fun _ => True) (.slice (some ⟨g, 0, none⟩) n c) xs) :
    n = xs.length ∧ lo ≤ g ∧ n ≤ c ∧ c ≤ maxLen ∧ ∃ cur : Array Value, w.heap[g]? = some (.cells cur 80 (0, 0)) ∧ cur.size = c * 2 ∧ cur.toList.take (n * 2) = cels xs := by
  obtain ⟨hn, _, _⟩ := Kd.R_reads' h
  subst hn
  obtain ⟨hok, inner, hown, hr⟩ := h
  rcases hown.2 with ⟨hv, _⟩ | ⟨g', cap', cur, hv, hb, hh, hnc, hcm, hcs, htake⟩
  · cases hv
  injection hv with ha _ hc
  injection ha with ha
  injection ha with hg
  subst hg; subst hc
  exact ⟨rfl, hb, hnc, hcm, cur, hh, hcs, htake.trans (reps_cels xs _ (fun p cs hp => kM hp) inner hr)⟩
theorem R_made {w : World} {lo g c : Nat} {xs : List Pa} (hb : lo ≤ g) (hnc : xs.length ≤ c) (hcm : c ≤ maxLen) (cur : Array Value) (hh : w.heap[g]? = some (.cells cur 80 (0, 0))) (hcs : cur.size = c * 2) (ht : cur.toList.take (xs.length * 2) = cels xs) :
    Kd.R k80 80 w lo (fun _ => True) (.slice (some ⟨g, 0, none⟩) xs.length c) xs :=
  ⟨fun _ _ => trivial, cels xs, ⟨cels_len xs, .inr ⟨g, c, cur, rfl, hb, hh, hnc, hcm, hcs, ht⟩⟩, cels_reps xs _ (fun p => k80_mkM _ _ _ _)⟩

/-! The operation copy, its run known. -/
section
variable {P : Program} {ops : Array Oper} {rest : List Oper} {o : Oper} {a : Act} {Q : Exit → Act → World → Prop} {Kc : Act → World → Prop}
theorem copy_known {W : World} (d s : Operand) (t t' : TypeId) (ho : o.op = .call { callee := .builtin .copy, args := #[d, s], argTypes := #[t, t'] }) (v u : Value) (hd : a.eval d = v) (hs : a.eval s = u) {v' : Value} {w' : World}
    (hr : (Builtin.copy_ #[t, t'] o.type #[v, u]).run P W = .ok v' w') (h : Kc (a.put o.dst v') w') : o.wp P a W Kc Q := by
  unfold Oper.wp execOp
  simp only [ho, resolve, invoke, builtin, Sem.run_bind, Sem.run_pure, Result.andThen_ok, List.map_toArray, List.map_cons, List.map_nil, hd, hs, hr]
  exact h
theorem copy_list {W : World} (hgd : o.guard = none) (d s : Operand) (t t' : TypeId) (ho : o.op = .call { callee := .builtin .copy, args := #[d, s], argTypes := #[t, t'] }) (v u : Value) (hd : a.eval d = v) (hs : a.eval s = u) {v' : Value} {w' : World}
    (hr : (Builtin.copy_ #[t, t'] o.type #[v, u]).run P W = .ok v' w') (h : wpList P ops Q rest (a.put o.dst v') w') : wpList P ops Q (o :: rest) a W :=
  wpList_plain hgd fun _ hK => copy_known d s t t' ho v u hd hs hr (hK _ _ h)
theorem copy_step {W : World} (hw : Region.wanted o (yielded ops a.tmps) = true) (d s : Operand) (t t' : TypeId) (ho : o.op = .call { callee := .builtin .copy, args := #[d, s], argTypes := #[t, t'] }) (v u : Value) (hd : a.eval d = v) (hs : a.eval s = u) {v' : Value} {w' : World}
    (hr : (Builtin.copy_ #[t, t'] o.type #[v, u]).run P W = .ok v' w') (h : Kc (a.put o.dst v') w') :
    if Region.wanted o (yielded ops a.tmps) = true then Oper.wp P o a W Kc Q else Kc (a.put o.dst undef) W := by
  rw [if_pos hw]
  exact copy_known d s t t' ho v u hd hs hr h
end
theorem copy_run (W : World) (ty : TypeId) (g o dLen dCap : Nat) (a : Addr) (sLen sCap : Nat) (cs : List Value) (hn : cs.length = Nat.min sLen dLen * 2)
    (hsrc : ∀ j v, cs[j]? = some v → W.cell? (a.add j) = some v) (hc : ∀ j, j < cs.length → (W.cell? ⟨g, o + j, none⟩).isSome = true) (hf : ∀ j, j < cs.length → W.frozen? ⟨g, o + j, none⟩ = false) (h1 : ∀ v ∈ cs, v.oneCell' = true) :
    (Builtin.copy_ #[66, 66] ty #[.slice (some ⟨g, o, none⟩) dLen dCap, .slice (some a) sLen sCap]).run Try.prog W = .ok (goInt (Nat.min sLen dLen)) (W.setCells g o cs) := by
  have hst := run_storeCells_cells (P := Try.prog) g o cs 0 W (by simpa using hc) (by simpa using hf) h1
  have hfc := run_firstCells_some (P := Try.prog) (w := W) 2 (Nat.min sLen dLen) a sLen sCap cs hn hsrc
  have hsz : ∀ w, (sizeOf 80).run Try.prog w = .ok 2 w := fun w => by kernel_rfl
  simp only [Nat.add_zero] at hst
  simp only [Builtin.copy_]
  simp [run_underlying Try.underlying66, Builtin.lenOf, hsz, hfc, hst]
/-- What the two copies leave. -/
theorem lists (T C v : List Value) (i n : Nat) (hi : i ≤ n) (hv : v.length = 2) (hC : C.length = n * 2) (hT : T.take (n * 2) = C) (hTl : (n + 1) * 2 ≤ T.length) :
    ((T.take ((i + 1) * 2) ++ C.drop (i * 2) ++ T.drop ((i + 1) * 2 + (C.drop (i * 2)).length)).take (i * 2) ++ v ++ (T.take ((i + 1) * 2) ++ C.drop (i * 2) ++ T.drop ((i + 1) * 2 + (C.drop (i * 2)).length)).drop (i * 2 + v.length)).take ((n + 1) * 2) = C.take (i * 2) ++ v ++ C.drop (i * 2) := by
  have e1 : (T.take ((i + 1) * 2) ++ C.drop (i * 2) ++ T.drop ((i + 1) * 2 + (C.drop (i * 2)).length)).take (i * 2) = C.take (i * 2) := by
    rw [List.append_assoc, List.take_append_of_le_length (by rw [List.length_take]; omega), List.take_take, Nat.min_eq_left (by omega), ← hT, List.take_take, Nat.min_eq_left (by omega)]
  have e2 : (T.take ((i + 1) * 2) ++ C.drop (i * 2) ++ T.drop ((i + 1) * 2 + (C.drop (i * 2)).length)).drop (i * 2 + v.length) = C.drop (i * 2) ++ T.drop ((i + 1) * 2 + (C.drop (i * 2)).length) := by
    rw [List.append_assoc, List.drop_left' (by rw [List.length_take, hv]; omega)]
  rw [e1, e2, ← List.append_assoc]
  exact List.take_left' (by rw [List.length_append, List.length_append, List.length_take, List.length_drop, hC, hv]; omega)
/-- .. and in a new row. -/
theorem lists2 (T C v : List Value) (i n : Nat) (hi : i ≤ n) (hv : v.length = 2) (hC : C.length = n * 2) (hT : T.take (i * 2) = C.take (i * 2)) (hTl : (n + 1) * 2 ≤ T.length) :
    ((T.take (i * 2) ++ v ++ T.drop (i * 2 + v.length)).take ((i + 1) * 2) ++ C.drop (i * 2) ++ (T.take (i * 2) ++ v ++ T.drop (i * 2 + v.length)).drop ((i + 1) * 2 + (C.drop (i * 2)).length)).take ((n + 1) * 2) = C.take (i * 2) ++ v ++ C.drop (i * 2) := by
  have e1 : (T.take (i * 2) ++ v ++ T.drop (i * 2 + v.length)).take ((i + 1) * 2) = C.take (i * 2) ++ v := by
    rw [List.take_left' (by rw [List.length_append, List.length_take, hv]; omega), hT]
  rw [e1]
  exact List.take_left' (by rw [List.length_append, List.length_append, List.length_take, List.length_drop, hC, hv]; omega)
theorem overlaps_no (w : World) (g vb o : Nat) (cur cv : Array Value) (hg : w.heap[g]? = some (.cells cur 80 (0, 0))) (hv : w.heap[vb]? = some (.cells cv 80 (0, 0))) (hne : vb ≠ g) (hc : cur.size ≠ 0) (m vc lb cb : Nat) :
    (callFunc 86 #[.slice (some ⟨vb, 0, none⟩) m vc, .slice (some ⟨g, o, none⟩) lb cb]).run Try.prog w = .ok (.value (.bool false)) w := by
  rw [run_callFunc_extern Try.func86 (by kernel_rfl) (by kernel_rfl) (by kernel_rfl) (e := Extern.SlicesOverlaps.overlaps #[66, 66] #[4]) (by kernel_rfl),
    Lib.run_overlaps_apart w 66 4 80 Try.underlying66 2 (fun w => by kernel_rfl) ⟨vb, 0, none⟩ ⟨g, o, none⟩ m vc lb cb hne 80 80 cv.size cur.size (by simp [World.shape?, hv]) (by simp [World.shape?, hg]) hc (blk_frozen hv 0) (blk_frozen hv _)]
  rfl
set_option maxHeartbeats 2000000 in
set_option maxRecDepth 100000 in
theorem ins_shift (lo g c i vb : Nat) (xs : List Pa) (x : Pa) (w : World) (hR : Kd.R k80 80 w lo (fun _ => True) (.slice (some ⟨g, 0, none⟩) xs.length c) xs) (hi : i < xs.length) (hroom : xs.length + 1 ≤ c) (hv : w.heap[vb]? = some (.cells #[.string x.f0, .string x.f1] 80 (0, 0))) (hvb : vb ≠ g) (hn : xs.length ≤ 1048576) :
    Calls Try.prog 71 #[.slice (some ⟨g, 0, none⟩) xs.length c, .int .i64 (i : Int), .slice (some ⟨vb, 0, none⟩) 1 1] w fun e w' => e = .returned (.slice (some ⟨g, 0, none⟩) (xs.length + 1) c) ∧ w' = (w.drew.setCells g ((i + 1) * 2) (cels (xs.drop i))).setCells g (i * 2) (cel x) := by
  obtain ⟨_, hlo, hnc, hcm, cur, hh, hcs, ht⟩ := R_view hR
  obtain ⟨n, hnn⟩ : ∃ n, n = xs.length := ⟨_, rfl⟩
  rw [← hnn] at hi hroom hn hnc ht ⊢
  have hdl : (cels (xs.drop i)).length = (n - i) * 2 := by rw [cels_len, List.length_drop, hnn]
  have hroomj : ∀ j, j < c * 2 → (w.cell? ⟨g, j, none⟩).isSome = true := fun j hj => by rw [blk_cell hh, Array.getElem?_eq_getElem (by omega)]; rfl
  have hsrc : ∀ j v, (cels (xs.drop i))[j]? = some v → w.cell? ((⟨g, i * 2, none⟩ : Addr).add j) = some v := fun j v hj => by
    have hjl : j < (n - i) * 2 := by have := (List.getElem?_eq_some_iff.1 hj).1; omega
    rw [← cels_drop, ← ht, List.drop_take, List.getElem?_take, if_pos (by omega), List.getElem?_drop] at hj
    rw [add_at, blk_cell hh, ← Array.getElem?_toList]
    exact hj
  have hcp1 : ∀ ty dc sc, (Builtin.copy_ #[66, 66] ty #[.slice (some ⟨g, (i + 1) * 2, none⟩) (n + 1 - (i + 1)) dc, .slice (some ⟨g, i * 2, none⟩) (n + 1 - i) sc]).run Try.prog w.drew = .ok (goInt (Nat.min (n + 1 - i) (n + 1 - (i + 1)))) (w.drew.setCells g ((i + 1) * 2) (cels (xs.drop i))) := fun ty dc sc =>
    copy_run w.drew ty g ((i + 1) * 2) (n + 1 - (i + 1)) dc ⟨g, i * 2, none⟩ (n + 1 - i) sc (cels (xs.drop i)) (by rw [hdl, show Nat.min (n + 1 - i) (n + 1 - (i + 1)) = n - i by simp only [Nat.min_def]; split <;> omega])
      hsrc (fun j hj => hroomj _ (by omega)) (fun j hj => blk_frozen hh _) (cels_one _)
  obtain ⟨cur1, h3, h4, h5⟩ := setCells_row (cels (xs.drop i)) ((i + 1) * 2) w.drew cur hh (by omega)
  obtain ⟨W1, hW1⟩ : ∃ W1, W1 = w.drew.setCells g ((i + 1) * 2) (cels (xs.drop i)) := ⟨_, rfl⟩
  rw [← hW1] at h3 hcp1
  have hv1 : W1.heap[vb]? = some (.cells #[.string x.f0, .string x.f1] 80 (0, 0)) := by rw [hW1]; exact (setCells_far _ _ vb hvb).trans hv
  have hcp2 : ∀ (W : World), W.heap[g]? = W1.heap[g]? → W.heap[vb]? = W1.heap[vb]? → ∀ ty dc, (Builtin.copy_ #[66, 66] ty #[.slice (some ⟨g, i * 2, none⟩) (n + 1 - i) dc, .slice (some ⟨vb, 0, none⟩) 1 1]).run Try.prog W = .ok (goInt (Nat.min 1 (n + 1 - i))) (W.setCells g (i * 2) (cel x)) := fun W hWg hWv ty dc =>
    copy_run W ty g (i * 2) (n + 1 - i) dc ⟨vb, 0, none⟩ 1 1 (cel x) (by rw [show Nat.min 1 (n + 1 - i) = 1 by simp only [Nat.min_def]; split <;> omega]; rfl)
      (fun j v hj => by rw [add_plain, blk_cell (hWv.trans hv1)]; simpa [cel] using hj) (fun j hj => by rw [blk_cell (hWg.trans h3), Array.getElem?_eq_getElem (by have : (cel x).length = 2 := rfl; omega)]; rfl) (fun j hj => blk_frozen (hWg.trans h3) _)
      (fun v hv => cels_one [x] v (by rw [cels_cons]; exact List.mem_append_left _ hv))
  have hov : ∀ o m vc lb cb, (callFunc 86 #[.slice (some ⟨vb, 0, none⟩) m vc, .slice (some ⟨g, o, none⟩) lb cb]).run Try.prog w = .ok (.value (.bool false)) w := fun o m vc lb cb => overlaps_no w g vb o cur _ hh hv hvb (by omega) m vc lb cb
  have HW1 := Aside0.mk hW1
  have hz2 : ¬ ((i : Int) = (n : Int)) := by omega
  have hz3 : ¬ ((c : Int) < (n : Int) + 1) := by omega
  have hb1 : (0 : Int) ≤ (i : Int) + 1 := by omega
  have hb0 : (0 : Int) ≤ (n : Int) + 1 := by omega
  have hin : i ≤ n := by omega
  have htn : ((i : Int) + 1).toNat = i + 1 := by omega
  have htm : ((n : Int) + 1).toNat = n + 1 := by omega
  have hb2 : ¬ (c = i + 1) := by omega
  have hb3 : (i : Int) ≤ (n : Int) + 1 := by omega
  have hb5 : (i : Int) + 1 ≤ (n : Int) + 1 := by omega
  have hb6 : (n : Int) + 1 ≤ (c : Int) := by omega
  have hb4 : ¬ (c = i) := by omega
  have hw1 : IntKind.i64.wrap ((i : Int) + 1) = (i : Int) + 1 := by rw [IntKind.wrap_i64]; omega
  have hnb : (n : Int) ≤ 1048576 := by omega
  have hib : (i : Int) ≤ 1048576 := by omega
  have hb7 : (i : Int) ≤ (n : Int) := by omega
  clear hsrc hroomj hdl hh hcs ht h3 h4 h5 hv hv1 hnn hR hW1 hvb hlo hnc hcm hn hi
  go_enter Try.func71, Try.ntmps71
  go_wp2_with (simp only [hov])
  go_region_law (refine copy_step (by rfl) (.tmp 73) (.tmp 76) 66 66 rfl (.slice (some ⟨g, (i + 1) * 2, none⟩) (n + 1 - (i + 1)) (c - (i + 1))) (.slice (some ⟨g, i * 2, none⟩) (n + 1 - i) (c - i)) (by simp [Act.eval, Act.put]) (by simp [Act.eval, Act.put]) (hcp1 _ _ _) ?_)
  go_wp2_with (at_builtin; refine copy_list rfl _ _ 66 66 rfl _ _ rfl rfl (hcp2 _ rfl rfl _ _) ?_)
  go_ret
  first | exact ⟨rfl, rfl⟩ | exact ⟨rfl, by rw [HW1.out]⟩
/-! A new row. -/
theorem shift_R (w : World) (lo g c i : Nat) (xs : List Pa) (x : Pa) (hR : Kd.R k80 80 w lo (fun _ => True) (.slice (some ⟨g, 0, none⟩) xs.length c) xs) (hi : i ≤ xs.length) (hroom : xs.length + 1 ≤ c) (hlw : lo ≤ w.heap.size) :
    Kd.R k80 80 ((w.drew.setCells g ((i + 1) * 2) (cels (xs.drop i))).setCells g (i * 2) (cel x)) lo (fun _ => True) (.slice (some ⟨g, 0, none⟩) (xs.length + 1) c) (xs.take i ++ x :: xs.drop i) ∧ Below lo w ((w.drew.setCells g ((i + 1) * 2) (cels (xs.drop i))).setCells g (i * 2) (cel x)) := by
  obtain ⟨_, hlo, hnc, hcm, cur, hh, hcs, ht⟩ := R_view hR
  have hdl : (cels (xs.drop i)).length = (xs.length - i) * 2 := by rw [cels_len, List.length_drop]
  have h2 : (cel x).length = 2 := rfl
  obtain ⟨cur1, h3, h4, h5⟩ := setCells_row (cels (xs.drop i)) ((i + 1) * 2) w.drew cur hh (by omega)
  obtain ⟨cur2, h6, h7, h8⟩ := setCells_row (cel x) (i * 2) _ cur1 h3 (by omega)
  have hlen : (xs.take i ++ x :: xs.drop i).length = xs.length + 1 := by rw [List.length_append, List.length_take, List.length_cons, List.length_drop]; omega
  refine ⟨?_, ?_⟩
  · have hm := R_made (lo := lo) (g := g) (c := c) (xs := xs.take i ++ x :: xs.drop i) hlo (by rw [hlen]; exact hroom) hcm cur2 h6 (by omega) (by
      rw [hlen, h8, h5]
      have e := lists cur.toList (cels xs) (cel x) i xs.length hi rfl (cels_len xs) ht (by have e := Array.length_toList (xs := cur); omega)
      rw [cels_drop, cels_take] at e
      rw [cels_app, cels_cons, ← List.append_assoc]
      exact e)
    rw [hlen] at hm
    exact hm
  · obtain ⟨s1, s2, s3, s4⟩ := setCells_same g (cels (xs.drop i)) ((i + 1) * 2) w.drew
    obtain ⟨t1, t2, t3, t4⟩ := setCells_same g (cel x) (i * 2) (w.drew.setCells g ((i + 1) * 2) (cels (xs.drop i)))
    exact ⟨t1.trans s1, t2.trans s2, t3.trans s3, by rw [t4, s4]; exact Nat.le_refl _, fun b hb => (setCells_far _ _ b (by omega)).trans (setCells_far _ _ b (by omega))⟩
theorem grow_R (w : World) (lo i G : Nat) (xs : List Pa) (x : Pa) (ROW : Array Value) (hi : i ≤ xs.length) (hrs : ROW.size = G * 2) (hG : xs.length + 1 ≤ G) (hGm : G ≤ maxLen) (ht : ROW.toList.take (i * 2) = cels (xs.take i)) (hlw : lo ≤ w.heap.size) :
    Kd.R k80 80 ((((w.alloc (.cells ROW 80)).drew.setCells w.heap.size (i * 2) (cel x)).drew).setCells w.heap.size ((i + 1) * 2) (cels (xs.drop i))) lo (fun _ => True) (.slice (some ⟨w.heap.size, 0, none⟩) (xs.length + 1) G) (xs.take i ++ x :: xs.drop i) ∧ Below lo w ((((w.alloc (.cells ROW 80)).drew.setCells w.heap.size (i * 2) (cel x)).drew).setCells w.heap.size ((i + 1) * 2) (cels (xs.drop i))) := by
  have hdl : (cels (xs.drop i)).length = (xs.length - i) * 2 := by rw [cels_len, List.length_drop]
  have h2 : (cel x).length = 2 := rfl
  have hh : (w.alloc (.cells ROW 80)).drew.heap[w.heap.size]? = some (.cells ROW 80 (0, 0)) := at_new w _
  obtain ⟨cur1, h3, h4, h5⟩ := setCells_row (cel x) (i * 2) _ ROW hh (by omega)
  obtain ⟨cur2, h6, h7, h8⟩ := setCells_row (cels (xs.drop i)) ((i + 1) * 2) _ cur1 (show (((w.alloc (.cells ROW 80)).drew.setCells w.heap.size (i * 2) (cel x)).drew).heap[w.heap.size]? = _ from h3) (by omega)
  have hlen : (xs.take i ++ x :: xs.drop i).length = xs.length + 1 := by rw [List.length_append, List.length_take, List.length_cons, List.length_drop]; omega
  refine ⟨?_, ?_⟩
  · have hm := R_made (lo := lo) (g := w.heap.size) (c := G) (xs := xs.take i ++ x :: xs.drop i) hlw (by rw [hlen]; exact hG) hGm cur2 h6 (by omega) (by
      rw [hlen, h8, h5]
      have e := lists2 ROW.toList (cels xs) (cel x) i xs.length hi rfl (cels_len xs) (by rw [ht, cels_take]) (by have e := Array.length_toList (xs := ROW); omega)
      rw [cels_drop, cels_take] at e
      rw [cels_app, cels_cons, ← List.append_assoc]
      exact e)
    rw [hlen] at hm
    exact hm
  · obtain ⟨s1, s2, s3, s4⟩ := setCells_same w.heap.size (cel x) (i * 2) (w.alloc (.cells ROW 80)).drew
    obtain ⟨t1, t2, t3, t4⟩ := setCells_same w.heap.size (cels (xs.drop i)) ((i + 1) * 2) (((w.alloc (.cells ROW 80)).drew.setCells w.heap.size (i * 2) (cel x)).drew)
    have hb : Below w.heap.size w (w.alloc (.cells ROW 80)) := below_alloc (Below.refl _ _) _
    exact ⟨t1.trans (s1.trans hb.os), t2.trans (s2.trans hb.tape), t3.trans (s3.trans hb.output), by rw [t4]; show w.heap.size ≤ ((w.alloc (.cells ROW 80)).drew.setCells w.heap.size (i * 2) (cel x)).heap.size; rw [s4]; exact hb.size, fun b hbl => (setCells_far _ _ b (by omega)).trans ((setCells_far _ _ b (by omega)).trans (hb.block b (by omega)))⟩
set_option maxHeartbeats 2000000 in
set_option maxRecDepth 100000 in
theorem ins_grow (lo g c i vb : Nat) (xs : List Pa) (x : Pa) (w : World) (hR : Kd.R k80 80 w lo (fun _ => True) (.slice (some ⟨g, 0, none⟩) xs.length c) xs) (hi : i < xs.length) (hroom : c < xs.length + 1) (hv : w.heap[vb]? = some (.cells #[.string x.f0, .string x.f1] 80 (0, 0))) (hn : xs.length ≤ 1048576) (hlw : lo ≤ w.heap.size) :
    Calls Try.prog 71 #[.slice (some ⟨g, 0, none⟩) xs.length c, .int .i64 (i : Int), .slice (some ⟨vb, 0, none⟩) 1 1] w fun e w' => ∃ G : Nat, e = .returned (.slice (some ⟨w.heap.size, 0, none⟩) (xs.length + 1) G) ∧ Kd.R k80 80 w' lo (fun _ => True) (.slice (some ⟨w.heap.size, 0, none⟩) (xs.length + 1) G) (xs.take i ++ x :: xs.drop i) ∧ Below lo w w' := by
  obtain ⟨_, hlo, hnc, hcm, cur, hh, hcs, ht⟩ := R_view hR
  obtain ⟨i0, hi0, hz0, hzs, hzb⟩ := info_parts info80
  obtain ⟨n, hnn⟩ : ∃ n, n = xs.length := ⟨_, rfl⟩
  have hgw : g < w.heap.size := blk_lt hh
  have hvw : vb < w.heap.size := blk_lt hv
  rw [← hnn] at hi hroom hn hnc ht
  have hkk : (n : Int) + 1 - (i : Int) = ((n + 1 - i : Nat) : Int) := by omega
  have hik : i + (n + 1 - i) = n + 1 := by omega
  have hold : (Builtin.firstCells i0.size i (.slice (some ⟨g, 0, none⟩) i c)).run Try.prog w.drew = .ok (cels (xs.take i)).toArray w.drew := by
    rw [hzs]
    exact run_firstCells_some (w := w.drew) 2 i ⟨g, 0, none⟩ i c (cels (xs.take i)) (by rw [cels_len, List.length_take]; omega) (fun j v hj => by
      rw [add_plain]
      show w.cell? _ = _
      rw [blk_cell hh, ← Array.getElem?_toList]
      rw [← cels_take, List.getElem?_take] at hj
      split at hj
      · rw [← ht, List.getElem?_take] at hj
        split at hj
        · exact hj
        · cases hj
      · cases hj)
  have hrz : ∀ ty, (Builtin.append_ #[66, 3] ty #[.slice (some ⟨g, 0, none⟩) i c, .int .i64 ((n : Int) + 1 - (i : Int))]).run Try.prog w = .ok (.slice (some ⟨w.heap.size, 0, none⟩) (n + 1) (grownCap w (n + 1) c 80)) (w.drew.alloc (.cells ((cels (xs.take i)).toArray ++ Builtin.zeroCells (Value.cells (.agg #[(.string ⟨#[]⟩), (.string ⟨#[]⟩)])) (n + 1 - i) ++ Builtin.zeroCells (Value.cells (.agg #[(.string ⟨#[]⟩), (.string ⟨#[]⟩)])) (grownCap w (n + 1) c 80 - (n + 1))) 80)) := fun ty => by
    have h := Lib.run_append_grow_zeros w 66 3 ty 80 i0 _ .i64 .i64 Try.underlying66 Try.underlying3 hi0 hz0 (some ⟨g, 0, none⟩) i c (cels (xs.take i)) hold (n + 1 - i) (by omega) (by omega) (by omega) (by omega) (by rw [hzb]; omega) (by rw [hzb, hik]; exact growslice_fits hroom (by omega))
    rw [hik] at h
    rw [hkk]
    exact h
  obtain ⟨G, hG⟩ : ∃ G, G = grownCap w (n + 1) c 80 := ⟨_, rfl⟩
  have hGn : n + 1 ≤ G := by rw [hG]; exact grownCap_ge w _ _ _
  have hGm : G ≤ maxLen := by rw [hG]; exact grownCap_le_maxLen w (n + 1) c 80 (by unfold maxLen; omega)
  obtain ⟨ROW, hROW⟩ : ∃ ROW : Array Value, ROW = (cels (xs.take i)).toArray ++ Builtin.zeroCells (Value.cells (.agg #[(.string ⟨#[]⟩), (.string ⟨#[]⟩)])) (n + 1 - i) ++ Builtin.zeroCells (Value.cells (.agg #[(.string ⟨#[]⟩), (.string ⟨#[]⟩)])) (G - (n + 1)) := ⟨_, rfl⟩
  have htl : (cels (xs.take i)).length = i * 2 := by rw [cels_len, List.length_take]; omega
  have hrs : ROW.size = G * 2 := by
    rw [hROW]
    simp [Builtin.zeroCells, Value.cells, htl]
    omega
  have hrt : ROW.toList.take (i * 2) = cels (xs.take i) := by
    rw [hROW, Array.toList_append, Array.toList_append, List.append_assoc]
    exact List.take_left' htl
  rw [← hG] at hrz
  rw [← hROW] at hrz
  obtain ⟨W1, hW1⟩ : ∃ W1, W1 = w.drew.alloc (.cells ROW 80) := ⟨_, rfl⟩
  rw [← hW1] at hrz
  have hN1 : W1.heap[w.heap.size]? = some (.cells ROW 80 (0, 0)) := by rw [hW1]; exact at_new w.drew _
  have hV1 : W1.heap[vb]? = some (.cells #[.string x.f0, .string x.f1] 80 (0, 0)) := by rw [hW1]; exact xblk_alloc (xblk_drew hv) _
  have hG1 : W1.heap[g]? = some (.cells cur 80 (0, 0)) := by rw [hW1]; exact xblk_alloc (xblk_drew hh) _
  have h2 : (cel x).length = 2 := rfl
  have hdl : (cels (xs.drop i)).length = (n - i) * 2 := by rw [cels_len, List.length_drop, hnn]
  have hcpA : ∀ (W : World), W.heap[w.heap.size]? = W1.heap[w.heap.size]? → W.heap[vb]? = W1.heap[vb]? → ∀ ty dc, (Builtin.copy_ #[66, 66] ty #[.slice (some ⟨w.heap.size, i * 2, none⟩) (n + 1 - i) dc, .slice (some ⟨vb, 0, none⟩) 1 1]).run Try.prog W = .ok (goInt (Nat.min 1 (n + 1 - i))) (W.setCells w.heap.size (i * 2) (cel x)) := fun W hWg hWv ty dc =>
    copy_run W ty w.heap.size (i * 2) (n + 1 - i) dc ⟨vb, 0, none⟩ 1 1 (cel x) (by rw [show Nat.min 1 (n + 1 - i) = 1 by simp only [Nat.min_def]; split <;> omega]; rfl)
      (fun j v hj => by rw [add_plain, blk_cell (hWv.trans hV1)]; simpa [cel] using hj) (fun j hj => by rw [blk_cell (hWg.trans hN1), Array.getElem?_eq_getElem (by omega)]; rfl) (fun j hj => blk_frozen (hWg.trans hN1) _)
      (fun v hv => cels_one [x] v (by rw [cels_cons]; exact List.mem_append_left _ hv))
  obtain ⟨cur1, h3, h4, h5⟩ := setCells_row (cel x) (i * 2) W1 ROW hN1 (by omega)
  have hG2 : (W1.setCells w.heap.size (i * 2) (cel x)).heap[g]? = some (.cells cur 80 (0, 0)) := (setCells_far _ _ g (by omega)).trans hG1
  have hcpB : ∀ (W : World), W.heap[w.heap.size]? = (W1.setCells w.heap.size (i * 2) (cel x)).heap[w.heap.size]? → W.heap[g]? = (W1.setCells w.heap.size (i * 2) (cel x)).heap[g]? → ∀ ty dc sc, (Builtin.copy_ #[66, 66] ty #[.slice (some ⟨w.heap.size, (i + 1) * 2, none⟩) (n + 1 - (i + 1)) dc, .slice (some ⟨g, i * 2, none⟩) (n - i) sc]).run Try.prog W = .ok (goInt (Nat.min (n - i) (n + 1 - (i + 1)))) (W.setCells w.heap.size ((i + 1) * 2) (cels (xs.drop i))) := fun W hWn hWg ty dc sc =>
    copy_run W ty w.heap.size ((i + 1) * 2) (n + 1 - (i + 1)) dc ⟨g, i * 2, none⟩ (n - i) sc (cels (xs.drop i)) (by rw [hdl, show Nat.min (n - i) (n + 1 - (i + 1)) = n - i by simp only [Nat.min_def]; split <;> omega])
      (fun j v hj => by
        have hjl : j < (n - i) * 2 := by have := (List.getElem?_eq_some_iff.1 hj).1; omega
        rw [← cels_drop, ← ht, List.drop_take, List.getElem?_take, if_pos (by omega), List.getElem?_drop] at hj
        rw [add_at, blk_cell (hWg.trans hG2), ← Array.getElem?_toList]
        exact hj)
      (fun j hj => by rw [blk_cell (hWn.trans h3), Array.getElem?_eq_getElem (by omega)]; rfl) (fun j hj => blk_frozen (hWn.trans h3) _) (cels_one _)
  subst hW1
  have HE1 := Aside0.mk (show ((w.alloc (.cells ROW 80)).drew).heap[w.heap.size]? = (w.drew.alloc (.cells ROW 80)).heap[w.heap.size]? from rfl)
  have HE2 := Aside0.mk (show ((w.alloc (.cells ROW 80)).drew).heap[vb]? = (w.drew.alloc (.cells ROW 80)).heap[vb]? from rfl)
  have HE3 := Aside0.mk (show (((w.alloc (.cells ROW 80)).drew.setCells w.heap.size (i * 2) (cel x)).drew).heap[w.heap.size]? = ((w.drew.alloc (.cells ROW 80)).setCells w.heap.size (i * 2) (cel x)).heap[w.heap.size]? from rfl)
  have HE4 := Aside0.mk (show (((w.alloc (.cells ROW 80)).drew.setCells w.heap.size (i * 2) (cel x)).drew).heap[g]? = ((w.drew.alloc (.cells ROW 80)).setCells w.heap.size (i * 2) (cel x)).heap[g]? from rfl)
  have hz2 : ¬ ((i : Int) = (n : Int)) := by omega
  have hz3 : (c : Int) < (n : Int) + 1 := by omega
  have hb1 : (0 : Int) ≤ (i : Int) + 1 := by omega
  have hin : i ≤ n := by omega
  have htn : ((i : Int) + 1).toNat = i + 1 := by omega
  have hGi : ¬ (G = i) := by omega
  have hGim : ¬ (G = i + 1) := by omega
  have hci : ¬ (c = i) := by omega
  have hb3 : (i : Int) ≤ (n : Int) := by omega
  have hb5 : (i : Int) + 1 ≤ (n : Int) + 1 := by omega
  have hb8 : (i : Int) ≤ (n : Int) + 1 := by omega
  have hw1 : IntKind.i64.wrap ((i : Int) + 1) = (i : Int) + 1 := by rw [IntKind.wrap_i64]; omega
  have hnb : (n : Int) ≤ 1048576 := by omega
  have hib : (i : Int) ≤ 1048576 := by omega
  have hic : (i : Int) ≤ (c : Int) := by omega
  have HF := Aside0.mk (grow_R w lo i G xs x ROW (by omega) hrs (by omega) hGm hrt hlw)
  rw [← hnn] at HF ⊢
  have hA1 := fun ty dc => hcpA (w.alloc (.cells ROW 80)).drew HE1.out HE2.out ty dc
  have HBB := Aside0.mk (fun ty dc sc => hcpB (((w.alloc (.cells ROW 80)).drew.setCells w.heap.size (i * 2) (cel x)).drew) HE3.out HE4.out ty dc sc)
  clear hcpA hcpB
  clear hkk hik hold hROW hG hrs hrt hdl htl h2 h3 h4 h5 hG1 hG2 hN1 hV1 hGm hh hcs ht hv hR hnn hlo hcm hi0 hz0 hzs hzb hgw hvw hn hroom hi hlw
  go_enter Try.func71, Try.ntmps71
  go_wp2_with (at_builtin; refine Lib.wpList_append_run _ rfl _ _ _ _ rfl _ _ rfl rfl _ _ (hrz _) ?_)
  go_region_law (refine copy_step (by rfl) (.tmp 50) (.tmp 53) 66 66 rfl (.slice (some ⟨w.heap.size, (i + 1) * 2, none⟩) (n + 1 - (i + 1)) (G - (i + 1))) (.slice (some ⟨g, i * 2, none⟩) (n - i) (c - i)) (by simp [Act.eval, Act.put]) (by simp [Act.eval, Act.put]) (HBB.out _ _ _) ?_)
  go_wp2
  go_ret
  exact ⟨G, rfl, HF.out⟩
end Go.Proofs.Ytjknkeipginpcaa.TrG
end

section
/- Treaps: slices.Insert at pairs, all roads. No conditions. -/
namespace Go.Proofs.Ytjknkeipginpcaa.TrG
set_option linter.unusedVariables false
set_option linter.unusedSimpArgs false
open Go.RowKit Go.Proofs.Ytjknkeipginpcaa.PQ Go.Proofs.YtjknkeipginpcaaW.PrintWords Go.Proofs.YtjknkeipginpcaaW.PrintLast Go.Proofs.YtjknkeipginpcaaW.PrintMore Go.Proofs.Ytjknkeipginpcaa.Pre Go.Proofs.Ytjknkeipginpcaa.Tr Go.Proofs.Ytjknkeipginpcaa.Pr Go.Proofs.Ytjknkeipginpcaa.Po

set_option maxHeartbeats 2000000 in
set_option maxRecDepth 100000 in
theorem ins_end (lo vb : Nat) (A : Option Addr) (c : Nat) (xs : List Pa) (x : Pa) (w : World) (hR : Kd.R k80 80 w lo (fun _ => True) (.slice A xs.length c) xs) (hv : w.heap[vb]? = some (.cells #[.string x.f0, .string x.f1] 80 (0, 0))) (hn : xs.length ≤ 1048576) (hlw : lo ≤ w.heap.size) :
    Calls Try.prog 71 #[.slice A xs.length c, .int .i64 (xs.length : Int), .slice (some ⟨vb, 0, none⟩) 1 1] w fun e w' => ∃ v', e = .returned v' ∧ Kd.R k80 80 w' lo (fun _ => True) v' (xs ++ [x]) ∧ Below lo w w' := by
  obtain ⟨_, hnc, _⟩ := Kd.R_reads' hR
  have HR := Aside0.mk hR
  have HLW := Aside0.mk hlw
  have HRR := Aside0.mk (show ReadsRow (fun (p : Pa) cs => cs = cel p) (k80).sz w (some ⟨vb, 0, none⟩) 1 [x] from ⟨rfl, by decide, fun _ => ⟨_, rfl, fun j p hj => by
    cases j with
    | zero =>
      obtain rfl := Option.some.inj hj
      refine ⟨cel x, rfl, rfl, fun i u hu => ?_⟩
      rw [add_plain, Nat.zero_mul, Nat.zero_add, blk_cell hv]
      simpa [cel] using hu
    | succ j => cases hj⟩⟩)
  have hnb : (xs.length : Int) ≤ 1048576 := by omega
  have HNB := Aside0.mk hn
  have hnc2 : (xs.length : Int) ≤ (c : Int) := by omega
  clear hR hlw hv hnc hn
  go_enter Try.func71, Try.ntmps71
  go_wp2_with (at_builtin; go_loud (refine Kd.R_append_rows k80 (Rr := fun p cs => cs = cel p) (w0 := w) lo rfl (.tmp 23) (.tmp 24) 66 80 (.agg #[(.string ⟨#[]⟩), (.string ⟨#[]⟩)]) 32 rfl Try.underlying66 info80 rfl (by decide) (by decide) (.slice A xs.length c) xs [x] (some ⟨vb, 0, none⟩) 1 1 (fun _ => True) (fun _ => False) rfl rfl HR.out HRR.out (fun p cs h => by subst h; exact k80_mkM _ _ _ _) (fun _ h => h.elim) (fun _ _ => trivial) (Below.refl lo w) HLW.out (by have := HNB.out; omega) ?_; intro v1 w1 ho1 hb1 hg1 hat1; have HO1 := Aside0.mk ho1; have HB1 := Aside0.mk hb1; clear ho1 hb1 hg1 hat1))
  all_goals
    go_ret
    exact ⟨_, rfl, HO1.out, HB1.out⟩
theorem insert (lo i vb : Nat) (A : Option Addr) (c : Nat) (xs : List Pa) (x : Pa) (w : World) (hR : Kd.R k80 80 w lo (fun _ => True) (.slice A xs.length c) xs) (hi : i ≤ xs.length) (hv : w.heap[vb]? = some (.cells #[.string x.f0, .string x.f1] 80 (0, 0))) (hne : some vb ≠ (Value.slice A xs.length c).ownBlock) (hn : xs.length ≤ 1048576) (hlw : lo ≤ w.heap.size) :
    Calls Try.prog 71 #[.slice A xs.length c, .int .i64 (i : Int), .slice (some ⟨vb, 0, none⟩) 1 1] w fun e w' => ∃ v', e = .returned v' ∧ Kd.R k80 80 w' lo (fun _ => True) v' (xs.take i ++ x :: xs.drop i) ∧ Below lo w w' := by
  by_cases hil : i < xs.length
  · obtain ⟨inner, hin⟩ := Kd.R_own hR
    obtain ⟨g, c2, e2, hgb, hgl⟩ := hin.form (by omega)
    injection e2 with e3 _ e4
    subst e3 e4
    have hvg : vb ≠ g := fun h => hne (by simp [Value.ownBlock, h])
    by_cases hroom : xs.length + 1 ≤ c
    · refine (ins_shift lo g c i vb xs x w hR hil hroom hv hvg hn).mono ?_
      rintro e w' ⟨rfl, rfl⟩
      exact ⟨_, rfl, shift_R w lo g c i xs x hR hi hroom hlw⟩
    · refine (ins_grow lo g c i vb xs x w hR hil (by omega) hv hn hlw).mono ?_
      rintro e w' ⟨G, rfl, h1, h2⟩
      exact ⟨_, rfl, h1, h2⟩
  · obtain rfl : i = xs.length := by omega
    rw [List.take_length, List.drop_length]
    exact ins_end lo vb A c xs x w hR hv hn hlw
end Go.Proofs.Ytjknkeipginpcaa.TrG
end

section
/- impl.PutKey, by hand. No conditions. -/
namespace Go.Proofs.Ytjknkeipginpcaa.TrG
set_option linter.unusedVariables false
set_option linter.unusedSimpArgs false
open Go.RowKit Go.Proofs.Ytjknkeipginpcaa.PQ Go.Proofs.YtjknkeipginpcaaW.PrintWords Go.Proofs.YtjknkeipginpcaaW.PrintLast Go.Proofs.YtjknkeipginpcaaW.PrintMore Go.Proofs.Ytjknkeipginpcaa.Pre Go.Proofs.Ytjknkeipginpcaa.Tr Go.Proofs.Ytjknkeipginpcaa.Pr Go.Proofs.Ytjknkeipginpcaa.Po

/-- The keys behind a put. -/
def putL (l : List KV) (key value : ByteArray) : List KV := if hsk l key = true then l.take (plc l key) ++ (key, value) :: l.drop (plc l key + 1) else l.take (plc l key) ++ (key, value) :: l.drop (plc l key)
/-- What PutKey answers. -/
def ansK (L : List Lb) (key value : ByteArray) : List Lb × Bool :=
  if (ansP L).2 = true ∧ (1 ≤ key.size ∧ key.size ≤ 40) ∧ value.size ≤ 60 ∧ (putL ((ansP L).1.map BuI.kv) key value).length ≤ 60 then (enc (putL ((ansP L).1.map BuI.kv) key value).length 0 (putL ((ansP L).1.map BuI.kv) key value), true) else ([], false)
theorem put1 {W : World} {base g n cap : Nat} {ok : Nat → Prop} {xs : List Pa} (h : Kd.R k80 80 W base ok (.slice (some ⟨g, 0, none⟩) n cap) xs) (i : Nat) (hi : i < n) (v : ByteArray) :
    W.cell? ⟨g, i * 2 + 1, none⟩ = some (.string (rd_T80 xs (i : Int)).f1) ∧ W.frozen? ⟨g, i * 2 + 1, none⟩ = false ∧
    Kd.R k80 80 (W.setCell ⟨g, i * 2 + 1, none⟩ (.string v)) base ok (.slice (some ⟨g, 0, none⟩) n cap) (xs.set i ⟨(rd_T80 xs (i : Int)).f0, v⟩) := by
  obtain ⟨ce, hcl, hM, hcc, hfr⟩ := Kd.R_elem h z80 (i : Int) (by omega) (by omega)
  obtain rfl := k80_openM hM
  have hx : W.cell? ⟨g, (i : Int).toNat * 2 + 1, none⟩ = some (.string (rd_T80 xs (i : Int)).f1) := hcc 1 _ rfl
  have hf : W.frozen? ⟨g, (i : Int).toNat * 2 + 1, none⟩ = false := hfr 1
  have hp := (Kd.R_seg h (i : Int) (by omega) (by omega) (seg := [.string v]) (j := 1) hcl hcc (show 1 + 1 ≤ 2 from by decide) (x' := (⟨(rd_T80 xs (i : Int)).f0, v⟩ : Pa)) (k80_mkM _ _ _ _) (fun _ hk => hk)).1
  rw [Int.toNat_natCast] at hx hf hp
  exact ⟨hx, hf, hp⟩
set_option maxHeartbeats 2000000 in
set_option maxRecDepth 100000 in
theorem put_no1 (L : List Lb) (A : Option Addr) (c : Nat) (key value : ByteArray) (w : World) (hC : Kd.C k71 w A L.length L) (hc1 : L.length ≤ c) (hLL : L.length ≤ 1048576) (hks : key.size ≤ 9223372036854775807) (hvs : value.size ≤ 9223372036854775807) (hok : (ansP L).2 = false) :
    Calls Try.prog 41 #[.agg #[.slice A L.length c], .string key, .string value] w fun e w' => ∃ v0_ : Value, e = .returned (.tuple #[.agg #[v0_], .bool false]) ∧ Kd.R k71 71 w' w.heap.size (fun _ => True) v0_ [] ∧ Below w.heap.size w w' := by
  obtain ⟨wA, hwA⟩ : ∃ wA, wA = w.alloc (.cells #[.slice A L.length c] 29) := ⟨_, rfl⟩
  obtain ⟨wB, hwB⟩ : ∃ wB, wB = wA.alloc (.cells #[.slice none 0 0] 29) := ⟨_, rfl⟩
  have HWA := Aside0.mk hwA
  have HWB := Aside0.mk hwB
  have hsA : wA.heap.size = w.heap.size + 1 := by rw [hwA]; exact new_size _ _
  have HSB := Aside0.mk (show wB.heap.size = w.heap.size + 2 by rw [hwB, new_size, hsA])
  have hBA : Below w.heap.size w wA := by rw [hwA]; exact below_alloc (Below.refl _ _) _
  have HBB := Aside0.mk (show Below w.heap.size w wB by rw [hwB]; exact below_alloc hBA _)
  have HTB := Aside0.mk (show wB.heap[w.heap.size]? = some (.cells #[.slice A L.length c] 29 (0, 0)) by rw [hwB]; exact xblk_alloc (by rw [hwA]; exact at_new _ _) _)
  have HRB := Aside0.mk (show wB.heap[w.heap.size + 1]? = some (.cells #[.slice none 0 0] 29 (0, 0)) by rw [hwB, ← hsA]; exact at_new _ _)
  have ct : ((w.alloc (.cells #[.slice A L.length c] 29)).alloc (.cells #[.slice none 0 0] 29)).cell? ⟨w.heap.size, 0, none⟩ = some (.slice A L.length c) := by rw [← hwA, ← hwB]; exact (blk_cell HTB.out 0).trans rfl
  have HP := Aside0.mk (Po.calls L A c wB (Kd.C_below hC HBB.out) hc1 hLL)
  have hri := ansP_ri L
  obtain ⟨ps, hps⟩ : ∃ ps, ps = (ansP L).1 := ⟨_, rfl⟩
  rw [← hps] at HP hri
  have HRI := Aside0.mk hri
  have hpl : (ps.length : Int) ≤ 60 := by have := hri.2.1; omega
  have HTK := Aside0.mk (fun W => tko key W)
  rw [hok] at HP
  clear hwA hwB hsA hBA hC hc1 hLL hri hps hok
  go_enter Try.func41, Try.ntmps41
  go_upto_region 2 with (go_at_call 49; rw [← HWA.out, ← HWB.out]; go_loud ((with_reducible refine HP.out.mono ?_); rintro e w2 ⟨v2, rfl, ho2, hb2⟩; have HO2 := Aside0.mk ho2; have HB2 := Aside0.mk hb2; clear ho2 hb2))
  clear ct
  have HR2 := Aside0.mk ((HB2.out.block (w.heap.size + 1) (by have := HSB.out; omega)).trans HRB.out)
  have HBw2 := Aside0.mk (HBB.out.trans (HB2.out.mono (by have := HSB.out; omega)))
  have cr : w2.cell? ⟨w.heap.size + 1, 0, none⟩ = some (.slice none 0 0) := (blk_cell HR2.out 0).trans rfl
  have fr : w2.frozen? ⟨w.heap.size + 1, 0, none⟩ = false := blk_frozen HR2.out 0
  go_wp2_with (fail)
  refine bodyPost_ret (results_ct rfl _ _ (w.heap.size + 1) 29 #[.slice none 0 0] (0, 0) _ rfl (blk_put HR2.out 0 _ rfl) Try.underlying29 rfl (by kernel_rfl)) rfl ?_
  have HBw : Below w.heap.size w w2 := HBw2.out
  exact ⟨_, rfl, Kd.R_nil _ _ _ _ _, HBw.setCell (p := ⟨w.heap.size + 1, 0, none⟩) (by show w.heap.size ≤ w.heap.size + 1; omega) _⟩
set_option maxHeartbeats 2000000 in
set_option maxRecDepth 100000 in
theorem put_no2 (L : List Lb) (A : Option Addr) (c : Nat) (key value : ByteArray) (w : World) (hC : Kd.C k71 w A L.length L) (hc1 : L.length ≤ c) (hLL : L.length ≤ 1048576) (hks : key.size ≤ 9223372036854775807) (hvs : value.size ≤ 9223372036854775807) (hok : (ansP L).2 = true) (hk : ¬ (1 ≤ key.size ∧ key.size ≤ 40)) :
    Calls Try.prog 41 #[.agg #[.slice A L.length c], .string key, .string value] w fun e w' => ∃ v0_ : Value, e = .returned (.tuple #[.agg #[v0_], .bool false]) ∧ Kd.R k71 71 w' w.heap.size (fun _ => True) v0_ [] ∧ Below w.heap.size w w' := by
  obtain ⟨wA, hwA⟩ : ∃ wA, wA = w.alloc (.cells #[.slice A L.length c] 29) := ⟨_, rfl⟩
  obtain ⟨wB, hwB⟩ : ∃ wB, wB = wA.alloc (.cells #[.slice none 0 0] 29) := ⟨_, rfl⟩
  have HWA := Aside0.mk hwA
  have HWB := Aside0.mk hwB
  have hsA : wA.heap.size = w.heap.size + 1 := by rw [hwA]; exact new_size _ _
  have HSB := Aside0.mk (show wB.heap.size = w.heap.size + 2 by rw [hwB, new_size, hsA])
  have hBA : Below w.heap.size w wA := by rw [hwA]; exact below_alloc (Below.refl _ _) _
  have HBB := Aside0.mk (show Below w.heap.size w wB by rw [hwB]; exact below_alloc hBA _)
  have HTB := Aside0.mk (show wB.heap[w.heap.size]? = some (.cells #[.slice A L.length c] 29 (0, 0)) by rw [hwB]; exact xblk_alloc (by rw [hwA]; exact at_new _ _) _)
  have HRB := Aside0.mk (show wB.heap[w.heap.size + 1]? = some (.cells #[.slice none 0 0] 29 (0, 0)) by rw [hwB, ← hsA]; exact at_new _ _)
  have ct : ((w.alloc (.cells #[.slice A L.length c] 29)).alloc (.cells #[.slice none 0 0] 29)).cell? ⟨w.heap.size, 0, none⟩ = some (.slice A L.length c) := by rw [← hwA, ← hwB]; exact (blk_cell HTB.out 0).trans rfl
  have HP := Aside0.mk (Po.calls L A c wB (Kd.C_below hC HBB.out) hc1 hLL)
  have hri := ansP_ri L
  obtain ⟨ps, hps⟩ : ∃ ps, ps = (ansP L).1 := ⟨_, rfl⟩
  rw [← hps] at HP hri
  have HRI := Aside0.mk hri
  have hpl : (ps.length : Int) ≤ 60 := by have := hri.2.1; omega
  have HTK := Aside0.mk (fun W => tko key W)
  rw [hok] at HP
  rw [decide_eq_false hk] at HTK
  clear hk
  clear hwA hwB hsA hBA hC hc1 hLL hri hps hok
  go_enter Try.func41, Try.ntmps41
  go_upto_region 2 with (go_at_call 49; rw [← HWA.out, ← HWB.out]; go_loud ((with_reducible refine HP.out.mono ?_); rintro e w2 ⟨v2, rfl, ho2, hb2⟩; have HO2 := Aside0.mk ho2; have HB2 := Aside0.mk hb2; clear ho2 hb2))
  clear ct
  have HR2 := Aside0.mk ((HB2.out.block (w.heap.size + 1) (by have := HSB.out; omega)).trans HRB.out)
  have HBw2 := Aside0.mk (HBB.out.trans (HB2.out.mono (by have := HSB.out; omega)))
  have cr : w2.cell? ⟨w.heap.size + 1, 0, none⟩ = some (.slice none 0 0) := (blk_cell HR2.out 0).trans rfl
  have fr : w2.frozen? ⟨w.heap.size + 1, 0, none⟩ = false := blk_frozen HR2.out 0
  go_wp2_with (go_at_call 70; go_loud ((with_reducible refine (HTK.out _).mono ?_); rintro e w3 ⟨rfl, m3, rfl⟩))
  refine bodyPost_ret (results_ct rfl _ _ (w.heap.size + 1) 29 #[.slice none 0 0] (0, 0) _ rfl (blk_put HR2.out 0 _ rfl) Try.underlying29 rfl (by kernel_rfl)) rfl ?_
  have HBw : Below w.heap.size w (w2.drewN m3) := pw_below_drewN HBw2.out _
  exact ⟨_, rfl, Kd.R_nil _ _ _ _ _, HBw.setCell (p := ⟨w.heap.size + 1, 0, none⟩) (by show w.heap.size ≤ w.heap.size + 1; omega) _⟩
set_option maxHeartbeats 2000000 in
set_option maxRecDepth 100000 in
theorem put_no3 (L : List Lb) (A : Option Addr) (c : Nat) (key value : ByteArray) (w : World) (hC : Kd.C k71 w A L.length L) (hc1 : L.length ≤ c) (hLL : L.length ≤ 1048576) (hks : key.size ≤ 9223372036854775807) (hvs : value.size ≤ 9223372036854775807) (hok : (ansP L).2 = true) (hk : 1 ≤ key.size ∧ key.size ≤ 40) (hv : ¬ value.size ≤ 60) :
    Calls Try.prog 41 #[.agg #[.slice A L.length c], .string key, .string value] w fun e w' => ∃ v0_ : Value, e = .returned (.tuple #[.agg #[v0_], .bool false]) ∧ Kd.R k71 71 w' w.heap.size (fun _ => True) v0_ [] ∧ Below w.heap.size w w' := by
  obtain ⟨wA, hwA⟩ : ∃ wA, wA = w.alloc (.cells #[.slice A L.length c] 29) := ⟨_, rfl⟩
  obtain ⟨wB, hwB⟩ : ∃ wB, wB = wA.alloc (.cells #[.slice none 0 0] 29) := ⟨_, rfl⟩
  have HWA := Aside0.mk hwA
  have HWB := Aside0.mk hwB
  have hsA : wA.heap.size = w.heap.size + 1 := by rw [hwA]; exact new_size _ _
  have HSB := Aside0.mk (show wB.heap.size = w.heap.size + 2 by rw [hwB, new_size, hsA])
  have hBA : Below w.heap.size w wA := by rw [hwA]; exact below_alloc (Below.refl _ _) _
  have HBB := Aside0.mk (show Below w.heap.size w wB by rw [hwB]; exact below_alloc hBA _)
  have HTB := Aside0.mk (show wB.heap[w.heap.size]? = some (.cells #[.slice A L.length c] 29 (0, 0)) by rw [hwB]; exact xblk_alloc (by rw [hwA]; exact at_new _ _) _)
  have HRB := Aside0.mk (show wB.heap[w.heap.size + 1]? = some (.cells #[.slice none 0 0] 29 (0, 0)) by rw [hwB, ← hsA]; exact at_new _ _)
  have ct : ((w.alloc (.cells #[.slice A L.length c] 29)).alloc (.cells #[.slice none 0 0] 29)).cell? ⟨w.heap.size, 0, none⟩ = some (.slice A L.length c) := by rw [← hwA, ← hwB]; exact (blk_cell HTB.out 0).trans rfl
  have HP := Aside0.mk (Po.calls L A c wB (Kd.C_below hC HBB.out) hc1 hLL)
  have hri := ansP_ri L
  obtain ⟨ps, hps⟩ : ∃ ps, ps = (ansP L).1 := ⟨_, rfl⟩
  rw [← hps] at HP hri
  have HRI := Aside0.mk hri
  have hpl : (ps.length : Int) ≤ 60 := by have := hri.2.1; omega
  have HTK := Aside0.mk (fun W => tko key W)
  rw [hok] at HP
  rw [decide_eq_true hk] at HTK
  have hv2 : (60 : Int) < (value.size : Int) := by omega
  clear hk hv
  clear hwA hwB hsA hBA hC hc1 hLL hri hps hok
  go_enter Try.func41, Try.ntmps41
  go_upto_region 2 with (go_at_call 49; rw [← HWA.out, ← HWB.out]; go_loud ((with_reducible refine HP.out.mono ?_); rintro e w2 ⟨v2, rfl, ho2, hb2⟩; have HO2 := Aside0.mk ho2; have HB2 := Aside0.mk hb2; clear ho2 hb2))
  clear ct
  have HR2 := Aside0.mk ((HB2.out.block (w.heap.size + 1) (by have := HSB.out; omega)).trans HRB.out)
  have HBw2 := Aside0.mk (HBB.out.trans (HB2.out.mono (by have := HSB.out; omega)))
  have cr : w2.cell? ⟨w.heap.size + 1, 0, none⟩ = some (.slice none 0 0) := (blk_cell HR2.out 0).trans rfl
  have fr : w2.frozen? ⟨w.heap.size + 1, 0, none⟩ = false := blk_frozen HR2.out 0
  go_wp2_with (go_at_call 70; go_loud ((with_reducible refine (HTK.out _).mono ?_); rintro e w3 ⟨rfl, m3, rfl⟩))
  refine bodyPost_ret (results_ct rfl _ _ (w.heap.size + 1) 29 #[.slice none 0 0] (0, 0) _ rfl (blk_put HR2.out 0 _ rfl) Try.underlying29 rfl (by kernel_rfl)) rfl ?_
  have HBw : Below w.heap.size w (w2.drewN m3) := pw_below_drewN HBw2.out _
  exact ⟨_, rfl, Kd.R_nil _ _ _ _ _, HBw.setCell (p := ⟨w.heap.size + 1, 0, none⟩) (by show w.heap.size ≤ w.heap.size + 1; omega) _⟩
set_option maxHeartbeats 2000000 in
set_option maxRecDepth 100000 in
theorem put_full (L : List Lb) (A : Option Addr) (c : Nat) (key value : ByteArray) (w : World) (hC : Kd.C k71 w A L.length L) (hc1 : L.length ≤ c) (hLL : L.length ≤ 1048576) (hks : key.size ≤ 9223372036854775807) (hvs : value.size ≤ 9223372036854775807) (hok : (ansP L).2 = true) (hk : 1 ≤ key.size ∧ key.size ≤ 40) (hv : value.size ≤ 60) (hth : hsk ((ansP L).1.map BuI.kv) key = false) (hfl : (ansP L).1.length = 60) :
    Calls Try.prog 41 #[.agg #[.slice A L.length c], .string key, .string value] w fun e w' => ∃ v0_ : Value, e = .returned (.tuple #[.agg #[v0_], .bool false]) ∧ Kd.R k71 71 w' w.heap.size (fun _ => True) v0_ [] ∧ Below w.heap.size w w' := by
  obtain ⟨wA, hwA⟩ : ∃ wA, wA = w.alloc (.cells #[.slice A L.length c] 29) := ⟨_, rfl⟩
  obtain ⟨wB, hwB⟩ : ∃ wB, wB = wA.alloc (.cells #[.slice none 0 0] 29) := ⟨_, rfl⟩
  have HWA := Aside0.mk hwA
  have HWB := Aside0.mk hwB
  have hsA : wA.heap.size = w.heap.size + 1 := by rw [hwA]; exact new_size _ _
  have HSB := Aside0.mk (show wB.heap.size = w.heap.size + 2 by rw [hwB, new_size, hsA])
  have hBA : Below w.heap.size w wA := by rw [hwA]; exact below_alloc (Below.refl _ _) _
  have HBB := Aside0.mk (show Below w.heap.size w wB by rw [hwB]; exact below_alloc hBA _)
  have HTB := Aside0.mk (show wB.heap[w.heap.size]? = some (.cells #[.slice A L.length c] 29 (0, 0)) by rw [hwB]; exact xblk_alloc (by rw [hwA]; exact at_new _ _) _)
  have HRB := Aside0.mk (show wB.heap[w.heap.size + 1]? = some (.cells #[.slice none 0 0] 29 (0, 0)) by rw [hwB, ← hsA]; exact at_new _ _)
  have ct : ((w.alloc (.cells #[.slice A L.length c] 29)).alloc (.cells #[.slice none 0 0] 29)).cell? ⟨w.heap.size, 0, none⟩ = some (.slice A L.length c) := by rw [← hwA, ← hwB]; exact (blk_cell HTB.out 0).trans rfl
  have HP := Aside0.mk (Po.calls L A c wB (Kd.C_below hC HBB.out) hc1 hLL)
  have hri := ansP_ri L
  obtain ⟨ps, hps⟩ : ∃ ps, ps = (ansP L).1 := ⟨_, rfl⟩
  rw [← hps] at HP hri
  have HRI := Aside0.mk hri
  have hpl : (ps.length : Int) ≤ 60 := by have := hri.2.1; omega
  have HTK := Aside0.mk (fun W => tko key W)
  rw [hok] at HP
  rw [decide_eq_true hk] at HTK
  have hv2 : ¬ ((60 : Int) < (value.size : Int)) := by omega
  rw [← hps] at hth hfl
  have HKV := Aside0.mk (⟨hk, hv⟩ : (1 ≤ key.size ∧ key.size ≤ 40) ∧ value.size ≤ 60)
  have HTH := Aside0.mk hth
  have hfl2 : (ps.length : Int) = 60 := by omega
  clear hwA hwB hsA hBA hC hc1 hLL hri hps hok hk hv hth hfl
  go_enter Try.func41, Try.ntmps41
  go_upto_region 2 with (go_at_call 49; rw [← HWA.out, ← HWB.out]; go_loud ((with_reducible refine HP.out.mono ?_); rintro e w2 ⟨v2, rfl, ho2, hb2⟩; have HO2 := Aside0.mk ho2; have HB2 := Aside0.mk hb2; clear ho2 hb2))
  clear ct
  obtain ⟨A2, c2, e2⟩ := Kd.R_slice HO2.out
  subst e2
  have HB2b := Aside0.mk (fun m : Nat => (pw_below_drewN (Below.refl w2.heap.size w2) m : Below w2.heap.size w2 (w2.drewN m)))
  have HL3 := Aside0.mk (fun m : Nat => placeOf ps A2 c2 key (w2.drewN m) (Kd.C_below (Kd.reads1 HO2.out) (HB2b.out m)) (by omega) HRI.out.1)
  rw [HTH.out] at HL3
  go_upto_region 4 with (go_at_call 70; go_loud ((with_reducible refine (HTK.out _).mono ?_); rintro e w3 ⟨rfl, m3, rfl⟩))
  obtain ⟨w3, hw3⟩ : ∃ w3, w3 = w2.drewN m3 := ⟨_, rfl⟩
  rw [← hw3]
  have HB3 := Aside0.mk (show Below w2.heap.size w2 w3 by rw [hw3]; exact HB2b.out m3)
  have HL4 := HL3.out m3
  rw [← hw3] at HL4
  have HL4 := Aside0.mk HL4
  clear hw3
  go_upto_region 6 with (go_at_call 61; go_loud ((with_reducible refine HL4.out.mono ?_); rintro e w4 ⟨rfl, hb4⟩; have HB4 := Aside0.mk hb4; clear hb4))
  have HB24 := Aside0.mk (HB3.out.trans (HB4.out.mono (HB3.out.size)))
  have HR4 := Aside0.mk ((HB24.out.block (w.heap.size + 1) (by have := HB2.out.size; have := HSB.out; omega)).trans ((HB2.out.block (w.heap.size + 1) (by have := HSB.out; omega)).trans HRB.out))
  have HO4 := Aside0.mk (Kd.R_below HO2.out HB24.out)
  have HS4 := Aside0.mk (show wB.heap.size ≤ w4.heap.size by have := HB2.out.size; have := HB24.out.size; omega)
  have HBw4 := Aside0.mk ((HBB.out.trans (HB2.out.mono (by have := HSB.out; omega))).trans (HB24.out.mono (by have := HB2.out.size; have := HSB.out; omega)))
  have cr : w4.cell? ⟨w.heap.size + 1, 0, none⟩ = some (.slice none 0 0) := (blk_cell HR4.out 0).trans rfl
  have fr : w4.frozen? ⟨w.heap.size + 1, 0, none⟩ = false := blk_frozen HR4.out 0
  go_wp2
  refine bodyPost_ret (results_ct rfl _ _ (w.heap.size + 1) 29 #[.slice none 0 0] (0, 0) _ rfl (blk_put HR4.out 0 _ rfl) Try.underlying29 rfl (by kernel_rfl)) rfl ?_
  have HBw : Below w.heap.size w w4 := HBw4.out
  exact ⟨_, rfl, Kd.R_nil _ _ _ _ _, HBw.setCell (p := ⟨w.heap.size + 1, 0, none⟩) (by show w.heap.size ≤ w.heap.size + 1; omega) _⟩
set_option maxHeartbeats 2000000 in
set_option maxRecDepth 100000 in
theorem put_set (L : List Lb) (A : Option Addr) (c : Nat) (key value : ByteArray) (w : World) (hC : Kd.C k71 w A L.length L) (hc1 : L.length ≤ c) (hLL : L.length ≤ 1048576) (hks : key.size ≤ 9223372036854775807) (hvs : value.size ≤ 9223372036854775807) (hok : (ansP L).2 = true) (hk : 1 ≤ key.size ∧ key.size ≤ 40) (hv : value.size ≤ 60) (hth : hsk ((ansP L).1.map BuI.kv) key = true) :
    Calls Try.prog 41 #[.agg #[.slice A L.length c], .string key, .string value] w fun e w' => ∃ v0_ : Value, e = .returned (.tuple #[.agg #[v0_], .bool true]) ∧ Kd.R k71 71 w' w.heap.size (fun _ => True) v0_ (enc (putL ((ansP L).1.map BuI.kv) key value).length 0 (putL ((ansP L).1.map BuI.kv) key value)) ∧ Below w.heap.size w w' := by
  obtain ⟨wA, hwA⟩ : ∃ wA, wA = w.alloc (.cells #[.slice A L.length c] 29) := ⟨_, rfl⟩
  obtain ⟨wB, hwB⟩ : ∃ wB, wB = wA.alloc (.cells #[.slice none 0 0] 29) := ⟨_, rfl⟩
  have HWA := Aside0.mk hwA
  have HWB := Aside0.mk hwB
  have hsA : wA.heap.size = w.heap.size + 1 := by rw [hwA]; exact new_size _ _
  have HSB := Aside0.mk (show wB.heap.size = w.heap.size + 2 by rw [hwB, new_size, hsA])
  have hBA : Below w.heap.size w wA := by rw [hwA]; exact below_alloc (Below.refl _ _) _
  have HBB := Aside0.mk (show Below w.heap.size w wB by rw [hwB]; exact below_alloc hBA _)
  have HTB := Aside0.mk (show wB.heap[w.heap.size]? = some (.cells #[.slice A L.length c] 29 (0, 0)) by rw [hwB]; exact xblk_alloc (by rw [hwA]; exact at_new _ _) _)
  have HRB := Aside0.mk (show wB.heap[w.heap.size + 1]? = some (.cells #[.slice none 0 0] 29 (0, 0)) by rw [hwB, ← hsA]; exact at_new _ _)
  have ct : ((w.alloc (.cells #[.slice A L.length c] 29)).alloc (.cells #[.slice none 0 0] 29)).cell? ⟨w.heap.size, 0, none⟩ = some (.slice A L.length c) := by rw [← hwA, ← hwB]; exact (blk_cell HTB.out 0).trans rfl
  have HP := Aside0.mk (Po.calls L A c wB (Kd.C_below hC HBB.out) hc1 hLL)
  have hri := ansP_ri L
  obtain ⟨ps, hps⟩ : ∃ ps, ps = (ansP L).1 := ⟨_, rfl⟩
  rw [← hps] at HP hri
  have HRI := Aside0.mk hri
  have hpl : (ps.length : Int) ≤ 60 := by have := hri.2.1; omega
  have HTK := Aside0.mk (fun W => tko key W)
  rw [hok] at HP
  rw [decide_eq_true hk] at HTK
  have hv2 : ¬ ((60 : Int) < (value.size : Int)) := by omega
  rw [← hps] at hth ⊢
  have HKV := Aside0.mk (⟨hk, hv⟩ : (1 ≤ key.size ∧ key.size ≤ 40) ∧ value.size ≤ 60)
  have HTH := Aside0.mk hth
  have hplt := hsk_lt hth
  rw [List.length_map] at hplt
  have HPT := Aside0.mk hplt
  obtain ⟨qs, hqs⟩ : ∃ qs : List Pa, qs = ps.take (plc (ps.map BuI.kv) key) ++ ⟨key, value⟩ :: ps.drop (plc (ps.map BuI.kv) key + 1) := ⟨_, rfl⟩
  have hqk : qs.map BuI.kv = putL (ps.map BuI.kv) key value := by rw [hqs, putL, if_pos hth]; simp [List.map_take, List.map_drop, BuI.kv]
  rw [← hqk]
  obtain ⟨zs, hzs⟩ : ∃ zs, zs = enc (qs.map BuI.kv).length 0 (qs.map BuI.kv) := ⟨_, rfl⟩
  rw [← hzs]
  have HQ := Aside0.mk hqs
  have HZ := Aside0.mk (show zs = enc qs.length 0 (qs.map BuI.kv) by rw [hzs, List.length_map])
  have hpli := plc_le (ps.map BuI.kv) key
  rw [List.length_map] at hpli
  have HPI := Aside0.mk hpli
  have hpi : ((plc (ps.map BuI.kv) key : Nat) : Int) ≤ 60 := by omega
  have HQS := Aside0.mk (show ∀ x ∈ qs, x.f0.size ≤ 40 ∧ x.f1.size ≤ 60 from fun x hx => by
    rw [hqs] at hx
    rcases List.mem_append.1 hx with hx | hx
    · exact hri.2.2 x (List.mem_of_mem_take hx)
    · rcases List.mem_cons.1 hx with rfl | hx
      · exact ⟨hk.2, hv⟩
      · exact hri.2.2 x (List.mem_of_mem_drop hx))
  have hky : (rd_T80 ps ((plc (ps.map BuI.kv) key : Nat) : Int)).f0 = key := by
    rw [← (BuI.kv_key ps _ hplt).1]
    unfold hsk at hth
    rw [Bool.and_eq_true] at hth
    exact of_decide_eq_true hth.2
  have HQ2 := Aside0.mk (show qs = ps.set (plc (ps.map BuI.kv) key) ⟨(rd_T80 ps ((plc (ps.map BuI.kv) key : Nat) : Int)).f0, value⟩ by rw [hqs, hky, List.set_eq_take_append_cons_drop, if_pos hplt])
  have HQL := Aside0.mk (show qs.length = ps.length by rw [HQ2.out, List.length_set])
  clear hwA hwB hsA hBA hC hc1 hLL hri hps hok hk hv hth hqs hqk hzs hplt hpli hky
  go_enter Try.func41, Try.ntmps41
  go_upto_region 2 with (go_at_call 49; rw [← HWA.out, ← HWB.out]; go_loud ((with_reducible refine HP.out.mono ?_); rintro e w2 ⟨v2, rfl, ho2, hb2⟩; have HO2 := Aside0.mk ho2; have HB2 := Aside0.mk hb2; clear ho2 hb2))
  clear ct
  obtain ⟨inner, hin⟩ := Kd.R_own HO2.out
  obtain ⟨g, c2, e2, hgb, hgl⟩ := hin.form (by have := HPT.out; omega)
  subst e2
  have HGB := Aside0.mk hgb
  have HB2b := Aside0.mk (fun m : Nat => (pw_below_drewN (Below.refl w2.heap.size w2) m : Below w2.heap.size w2 (w2.drewN m)))
  have HL3 := Aside0.mk (fun m : Nat => placeOf ps (some ⟨g, 0, none⟩) c2 key (w2.drewN m) (Kd.C_below (Kd.reads1 HO2.out) (HB2b.out m)) (by omega) HRI.out.1)
  rw [HTH.out] at HL3
  generalize plc (ps.map BuI.kv) key = k at *
  clear hin hgb hgl
  go_upto_region 4 with (go_at_call 70; go_loud ((with_reducible refine (HTK.out _).mono ?_); rintro e w3 ⟨rfl, m3, rfl⟩))
  obtain ⟨w3, hw3⟩ : ∃ w3, w3 = w2.drewN m3 := ⟨_, rfl⟩
  rw [← hw3]
  have HB3 := Aside0.mk (show Below w2.heap.size w2 w3 by rw [hw3]; exact HB2b.out m3)
  have HL4 := HL3.out m3
  rw [← hw3] at HL4
  have HL4 := Aside0.mk HL4
  clear hw3
  go_upto_region 6 with (go_at_call 61; go_loud ((with_reducible refine HL4.out.mono ?_); rintro e w4 ⟨rfl, hb4⟩; have HB4 := Aside0.mk hb4; clear hb4))
  have HB24 := Aside0.mk (HB3.out.trans (HB4.out.mono (HB3.out.size)))
  have HR4 := Aside0.mk ((HB24.out.block (w.heap.size + 1) (by have := HB2.out.size; have := HSB.out; omega)).trans ((HB2.out.block (w.heap.size + 1) (by have := HSB.out; omega)).trans HRB.out))
  have HO4 := Aside0.mk (Kd.R_below HO2.out HB24.out)
  have HS4 := Aside0.mk (show wB.heap.size ≤ w4.heap.size by have := HB2.out.size; have := HB24.out.size; omega)
  have HBw4 := Aside0.mk ((HBB.out.trans (HB2.out.mono (by have := HSB.out; omega))).trans (HB24.out.mono (by have := HB2.out.size; have := HSB.out; omega)))
  obtain ⟨q1, q2, q3⟩ := put1 HO4.out k HPT.out value
  have HO5 := Aside0.mk q3
  rw [← HQ2.out] at HO5
  have hkn : (k : Int) < (ps.length : Int) := by have := HPT.out; omega
  obtain ⟨w5, hw5⟩ : ∃ w5, w5 = w4.setCell ⟨g, k * 2 + 1, none⟩ (.string value) := ⟨_, rfl⟩
  rw [← hw5] at HO5
  have HW5 := Aside0.mk hw5
  have HB5 := Aside0.mk (show Below wB.heap.size w4 w5 by rw [hw5]; exact (Below.refl _ _).setCell (p := ⟨g, k * 2 + 1, none⟩) HGB.out _)
  have HS5 := Aside0.mk (show wB.heap.size ≤ w5.heap.size by rw [hw5]; simpa [World.setCell] using HS4.out)
  have HR5 := Aside0.mk ((HB5.out.block (w.heap.size + 1) (by have := HSB.out; omega)).trans HR4.out)
  have HBw5 := Aside0.mk (HBw4.out.trans (HB5.out.mono (by have := HSB.out; omega)))
  have hro := Kd.R_reads' HO5.out
  have HT6 := Aside0.mk (Tr.treapI qs (some ⟨g, 0, none⟩) c2 w5 hro.2.2 (by omega) (by have := HQL.out; omega) (keys_ok HQS.out))
  rw [← HZ.out, HQL.out] at HT6
  clear hw5 q3 hro
  go_upto_region 10 with (fail)
  rw [← HW5.out]
  go_wp2_with (go_at_call 57; go_loud ((with_reducible refine HT6.out.mono ?_); rintro e w7 ⟨v7, rfl, ho7, hb7⟩; (try rw [← HZ.out] at ho7); obtain ⟨A7, c7, e7⟩ := Kd.R_slice ho7; subst e7; have HO7 := Aside0.mk ho7; have HB7 := Aside0.mk hb7; have HR7 := Aside0.mk ((hb7.block (w.heap.size + 1) (by have := HS5.out; have := HSB.out; omega)).trans HR5.out); have cr : w7.cell? ⟨w.heap.size + 1, 0, none⟩ = some (.slice none 0 0) := (blk_cell HR7.out 0).trans rfl; have fr : w7.frozen? ⟨w.heap.size + 1, 0, none⟩ = false := blk_frozen HR7.out 0; clear ho7 hb7))
  refine bodyPost_ret (results_ct rfl _ _ (w.heap.size + 1) 29 #[.slice A7 zs.length c7] (0, 0) _ rfl (blk_put HR7.out 0 _ rfl) Try.underlying29 rfl (by kernel_rfl)) rfl ?_
  have hs5 : w.heap.size + 2 ≤ w5.heap.size := by have := HS5.out; have := HSB.out; omega
  have HBw := HBw5.out.trans (HB7.out.mono (by omega))
  refine ⟨_, rfl, ?_, HBw.setCell (p := ⟨w.heap.size + 1, 0, none⟩) (by show w.heap.size ≤ w.heap.size + 1; omega) _⟩
  have h1 := Kd.R_far (p := ⟨w.heap.size + 1, 0, none⟩) (Kd.R_bound HO7.out) (fun k hk => by have h1 := hk.2.1; show k ≠ w.heap.size + 1; omega) (.slice A7 zs.length c7)
  exact Kd.R_mono (Kd.R_lower h1 (by omega)) (fun _ _ => trivial)
set_option maxHeartbeats 2000000 in
set_option maxRecDepth 100000 in
theorem put_ins (L : List Lb) (A : Option Addr) (c : Nat) (key value : ByteArray) (w : World) (hC : Kd.C k71 w A L.length L) (hc1 : L.length ≤ c) (hLL : L.length ≤ 1048576) (hks : key.size ≤ 9223372036854775807) (hvs : value.size ≤ 9223372036854775807) (hok : (ansP L).2 = true) (hk : 1 ≤ key.size ∧ key.size ≤ 40) (hv : value.size ≤ 60) (hth : hsk ((ansP L).1.map BuI.kv) key = false) (hfl : ¬ (ansP L).1.length = 60) :
    Calls Try.prog 41 #[.agg #[.slice A L.length c], .string key, .string value] w fun e w' => ∃ v0_ : Value, e = .returned (.tuple #[.agg #[v0_], .bool true]) ∧ Kd.R k71 71 w' w.heap.size (fun _ => True) v0_ (enc (putL ((ansP L).1.map BuI.kv) key value).length 0 (putL ((ansP L).1.map BuI.kv) key value)) ∧ Below w.heap.size w w' := by
  obtain ⟨wA, hwA⟩ : ∃ wA, wA = w.alloc (.cells #[.slice A L.length c] 29) := ⟨_, rfl⟩
  obtain ⟨wB, hwB⟩ : ∃ wB, wB = wA.alloc (.cells #[.slice none 0 0] 29) := ⟨_, rfl⟩
  have HWA := Aside0.mk hwA
  have HWB := Aside0.mk hwB
  have hsA : wA.heap.size = w.heap.size + 1 := by rw [hwA]; exact new_size _ _
  have HSB := Aside0.mk (show wB.heap.size = w.heap.size + 2 by rw [hwB, new_size, hsA])
  have hBA : Below w.heap.size w wA := by rw [hwA]; exact below_alloc (Below.refl _ _) _
  have HBB := Aside0.mk (show Below w.heap.size w wB by rw [hwB]; exact below_alloc hBA _)
  have HTB := Aside0.mk (show wB.heap[w.heap.size]? = some (.cells #[.slice A L.length c] 29 (0, 0)) by rw [hwB]; exact xblk_alloc (by rw [hwA]; exact at_new _ _) _)
  have HRB := Aside0.mk (show wB.heap[w.heap.size + 1]? = some (.cells #[.slice none 0 0] 29 (0, 0)) by rw [hwB, ← hsA]; exact at_new _ _)
  have ct : ((w.alloc (.cells #[.slice A L.length c] 29)).alloc (.cells #[.slice none 0 0] 29)).cell? ⟨w.heap.size, 0, none⟩ = some (.slice A L.length c) := by rw [← hwA, ← hwB]; exact (blk_cell HTB.out 0).trans rfl
  have HP := Aside0.mk (Po.calls L A c wB (Kd.C_below hC HBB.out) hc1 hLL)
  have hri := ansP_ri L
  obtain ⟨ps, hps⟩ : ∃ ps, ps = (ansP L).1 := ⟨_, rfl⟩
  rw [← hps] at HP hri
  have HRI := Aside0.mk hri
  have hpl : (ps.length : Int) ≤ 60 := by have := hri.2.1; omega
  have HTK := Aside0.mk (fun W => tko key W)
  rw [hok] at HP
  rw [decide_eq_true hk] at HTK
  have hv2 : ¬ ((60 : Int) < (value.size : Int)) := by omega
  rw [← hps] at hth hfl ⊢
  have HKV := Aside0.mk (⟨hk, hv⟩ : (1 ≤ key.size ∧ key.size ≤ 40) ∧ value.size ≤ 60)
  have HTH := Aside0.mk hth
  obtain ⟨qs, hqs⟩ : ∃ qs : List Pa, qs = ps.take (plc (ps.map BuI.kv) key) ++ ⟨key, value⟩ :: ps.drop (plc (ps.map BuI.kv) key) := ⟨_, rfl⟩
  have hqk : qs.map BuI.kv = putL (ps.map BuI.kv) key value := by rw [hqs, putL, if_neg (by rw [hth]; decide)]; simp [List.map_take, List.map_drop, BuI.kv]
  rw [← hqk]
  obtain ⟨zs, hzs⟩ : ∃ zs, zs = enc (qs.map BuI.kv).length 0 (qs.map BuI.kv) := ⟨_, rfl⟩
  rw [← hzs]
  have HQ := Aside0.mk hqs
  have HZ := Aside0.mk (show zs = enc qs.length 0 (qs.map BuI.kv) by rw [hzs, List.length_map])
  have hpli := plc_le (ps.map BuI.kv) key
  rw [List.length_map] at hpli
  have HPI := Aside0.mk hpli
  have hpi : ((plc (ps.map BuI.kv) key : Nat) : Int) ≤ 60 := by omega
  have HQS := Aside0.mk (show ∀ x ∈ qs, x.f0.size ≤ 40 ∧ x.f1.size ≤ 60 from fun x hx => by
    rw [hqs] at hx
    rcases List.mem_append.1 hx with hx | hx
    · exact hri.2.2 x (List.mem_of_mem_take hx)
    · rcases List.mem_cons.1 hx with rfl | hx
      · exact ⟨hk.2, hv⟩
      · exact hri.2.2 x (List.mem_of_mem_drop hx))
  have hfl2 : ¬ (ps.length : Int) = 60 := by omega
  have HQL := Aside0.mk (show qs.length = ps.length + 1 by rw [hqs, List.length_append, List.length_take, List.length_cons, List.length_drop]; omega)
  clear hwA hwB hsA hBA hC hc1 hLL hri hps hok hk hv hth hqs hqk hzs hpli hfl
  go_enter Try.func41, Try.ntmps41
  go_upto_region 2 with (go_at_call 49; rw [← HWA.out, ← HWB.out]; go_loud ((with_reducible refine HP.out.mono ?_); rintro e w2 ⟨v2, rfl, ho2, hb2⟩; have HO2 := Aside0.mk ho2; have HB2 := Aside0.mk hb2; clear ho2 hb2))
  clear ct
  obtain ⟨A2, c2, e2⟩ := Kd.R_slice HO2.out
  subst e2
  have HB2b := Aside0.mk (fun m : Nat => (pw_below_drewN (Below.refl w2.heap.size w2) m : Below w2.heap.size w2 (w2.drewN m)))
  have HL3 := Aside0.mk (fun m : Nat => placeOf ps A2 c2 key (w2.drewN m) (Kd.C_below (Kd.reads1 HO2.out) (HB2b.out m)) (by omega) HRI.out.1)
  rw [HTH.out] at HL3
  generalize plc (ps.map BuI.kv) key = k at *
  go_upto_region 4 with (go_at_call 70; go_loud ((with_reducible refine (HTK.out _).mono ?_); rintro e w3 ⟨rfl, m3, rfl⟩))
  obtain ⟨w3, hw3⟩ : ∃ w3, w3 = w2.drewN m3 := ⟨_, rfl⟩
  rw [← hw3]
  have HB3 := Aside0.mk (show Below w2.heap.size w2 w3 by rw [hw3]; exact HB2b.out m3)
  have HL4 := HL3.out m3
  rw [← hw3] at HL4
  have HL4 := Aside0.mk HL4
  clear hw3
  go_upto_region 6 with (go_at_call 61; go_loud ((with_reducible refine HL4.out.mono ?_); rintro e w4 ⟨rfl, hb4⟩; have HB4 := Aside0.mk hb4; clear hb4))
  have HB24 := Aside0.mk (HB3.out.trans (HB4.out.mono (HB3.out.size)))
  have HR4 := Aside0.mk ((HB24.out.block (w.heap.size + 1) (by have := HB2.out.size; have := HSB.out; omega)).trans ((HB2.out.block (w.heap.size + 1) (by have := HSB.out; omega)).trans HRB.out))
  have HO4 := Aside0.mk (Kd.R_below HO2.out HB24.out)
  have HS4 := Aside0.mk (show wB.heap.size ≤ w4.heap.size by have := HB2.out.size; have := HB24.out.size; omega)
  have HBw4 := Aside0.mk ((HBB.out.trans (HB2.out.mono (by have := HSB.out; omega))).trans (HB24.out.mono (by have := HB2.out.size; have := HSB.out; omega)))
  obtain ⟨w4b, hw4b⟩ : ∃ w4b, w4b = w4.alloc (.cells #[.string key, .string value] 80) := ⟨_, rfl⟩
  have HW4 := Aside0.mk hw4b
  have HB4b := Aside0.mk (show Below w4.heap.size w4 w4b by rw [hw4b]; exact below_alloc (Below.refl _ _) _)
  have HI := Aside0.mk (insert wB.heap.size k w4.heap.size A2 c2 ps ⟨key, value⟩ w4b (Kd.R_below HO4.out HB4b.out) HPI.out (by rw [hw4b]; exact at_new _ _) (by have h1 := Kd.R_bound HO4.out; intro hc; have h2 := (h1.1 _ hc.symm).2.2.1; omega) (by omega) (by have := HB4b.out.size; have := HS4.out; omega))
  rw [← HQ.out] at HI
  clear hw4b
  go_upto_region 10 with (go_at_call 71; rw [← HW4.out]; go_loud ((with_reducible refine HI.out.mono ?_); rintro e w5 ⟨v5, rfl, ho5, hb5⟩; obtain ⟨A5, c5, e5⟩ := Kd.R_slice ho5; subst e5; have HO5 := Aside0.mk ho5; have HB5 := Aside0.mk hb5; clear ho5 hb5))
  have HS5 := Aside0.mk (show wB.heap.size ≤ w5.heap.size by have := HB5.out.size; have := HB4b.out.size; have := HS4.out; omega)
  have HR5 := Aside0.mk ((HB5.out.block (w.heap.size + 1) (by have := HSB.out; omega)).trans ((HB4b.out.block (w.heap.size + 1) (by have := HS4.out; have := HSB.out; omega)).trans HR4.out))
  have HBw5 := Aside0.mk ((HBw4.out.trans (HB4b.out.mono (by have := HS4.out; have := HSB.out; omega))).trans (HB5.out.mono (by have := HSB.out; omega)))
  have HT6 := Aside0.mk (Tr.treapI qs A5 c5 w5 (Kd.reads1 HO5.out) (Kd.reads2 HO5.out) (by have := HQL.out; omega) (keys_ok HQS.out))
  go_wp2_with (go_at_call 57; go_loud ((with_reducible refine HT6.out.mono ?_); rintro e w7 ⟨v7, rfl, ho7, hb7⟩; (try rw [← HZ.out] at ho7); obtain ⟨A7, c7, e7⟩ := Kd.R_slice ho7; subst e7; have HO7 := Aside0.mk ho7; have HB7 := Aside0.mk hb7; have HR7 := Aside0.mk ((hb7.block (w.heap.size + 1) (by have := HS5.out; have := HSB.out; omega)).trans HR5.out); have cr : w7.cell? ⟨w.heap.size + 1, 0, none⟩ = some (.slice none 0 0) := (blk_cell HR7.out 0).trans rfl; have fr : w7.frozen? ⟨w.heap.size + 1, 0, none⟩ = false := blk_frozen HR7.out 0; clear ho7 hb7))
  refine bodyPost_ret (results_ct rfl _ _ (w.heap.size + 1) 29 #[.slice A7 zs.length c7] (0, 0) _ rfl (blk_put HR7.out 0 _ rfl) Try.underlying29 rfl (by kernel_rfl)) rfl ?_
  have hs5 : w.heap.size + 2 ≤ w5.heap.size := by have := HS5.out; have := HSB.out; omega
  have HBw := HBw5.out.trans (HB7.out.mono (by omega))
  refine ⟨_, rfl, ?_, HBw.setCell (p := ⟨w.heap.size + 1, 0, none⟩) (by show w.heap.size ≤ w.heap.size + 1; omega) _⟩
  have h1 := Kd.R_far (p := ⟨w.heap.size + 1, 0, none⟩) (Kd.R_bound HO7.out) (fun k hk => by have h1 := hk.2.1; show k ≠ w.heap.size + 1; omega) (.slice A7 zs.length c7)
  exact Kd.R_mono (Kd.R_lower h1 (by omega)) (fun _ _ => trivial)
theorem putL_len (l : List KV) (key value : ByteArray) : (putL l key value).length = if hsk l key = true then l.length else l.length + 1 := by
  have hp := plc_le l key
  unfold putL
  split
  · rename_i h
    have := hsk_lt h
    rw [List.length_append, List.length_take, List.length_cons, List.length_drop]
    omega
  · rw [List.length_append, List.length_take, List.length_cons, List.length_drop]
    omega
theorem putKey (L : List Lb) (A : Option Addr) (c : Nat) (key value : ByteArray) (w : World) (hC : Kd.C k71 w A L.length L) (hc1 : L.length ≤ c) (hLL : L.length ≤ 1048576) (hks : key.size ≤ 9223372036854775807) (hvs : value.size ≤ 9223372036854775807) :
    Calls Try.prog 41 #[.agg #[.slice A L.length c], .string key, .string value] w fun e w' => ∃ v0_ : Value, e = .returned (.tuple #[.agg #[v0_], .bool (ansK L key value).2]) ∧ Kd.R k71 71 w' w.heap.size (fun _ => True) v0_ (ansK L key value).1 ∧ Below w.heap.size w w' := by
  have hpl := putL_len ((ansP L).1.map BuI.kv) key value
  have h60 := (ansP_ri L).2.1
  rw [List.length_map] at hpl
  unfold ansK
  cases hok : (ansP L).2 with
  | false =>
    rw [if_neg (fun h => by cases h.1)]
    exact put_no1 L A c key value w hC hc1 hLL hks hvs hok
  | true =>
    by_cases hk : 1 ≤ key.size ∧ key.size ≤ 40
    · by_cases hv : value.size ≤ 60
      · cases hth : hsk ((ansP L).1.map BuI.kv) key with
        | true =>
          rw [hth, if_pos rfl] at hpl
          rw [if_pos ⟨rfl, hk, hv, by omega⟩]
          exact put_set L A c key value w hC hc1 hLL hks hvs hok hk hv hth
        | false =>
          rw [hth, if_neg (by decide)] at hpl
          by_cases hfl : (ansP L).1.length = 60
          · rw [if_neg (fun h => by have := h.2.2.2; omega)]
            exact put_full L A c key value w hC hc1 hLL hks hvs hok hk hv hth hfl
          · rw [if_pos ⟨rfl, hk, hv, by omega⟩]
            exact put_ins L A c key value w hC hc1 hLL hks hvs hok hk hv hth hfl
      · rw [if_neg (fun h => hv h.2.2.1)]
        exact put_no3 L A c key value w hC hc1 hLL hks hvs hok hk hv
    · rw [if_neg (fun h => hk h.2.1)]
      exact put_no2 L A c key value w hC hc1 hLL hks hvs hok hk
end Go.Proofs.Ytjknkeipginpcaa.TrG
end

section
-- Written by a program of this session (pprint.py) out of the translation's print; Lean checks it.
namespace Go.Proofs.Ytjknkeipginpcaa.PQ
open Go.RowKit Go.Proofs.YtjknkeipginpcaaW.PrintWords Go.Proofs.YtjknkeipginpcaaW.PrintLast Go.Proofs.YtjknkeipginpcaaW.PrintMore
attribute [local go_sem] max2_int min2_int max_two min_two max_three min_three max_four min_four   -- for this text's walks alone
set_option linter.unusedVariables false
set_option linter.unusedSimpArgs false

--OWNPART impl_PutKey
/-! ### impl_PutKey: function 41, by hand -/
--NEEDS loop.example/g00274/impl.GoodTreap
--NEEDS loop.example/g00274/spec.l7Of
--IMPORT TrY
def impl_PutKey.f (l0_0 : List (S71)) (a1 : ByteArray) (a2 : ByteArray) : Option (List (S71) × Bool) := if (l0_0.length ≤ 1048576 ∧ a1.size ≤ 1048576 ∧ a2.size ≤ 1048576) then some (TrG.ansK l0_0 a1 a2) else none
theorem impl_PutKey.calls (A0_0 : Option Addr) (c0_0 : Nat) (l0_0 : List (S71)) (a1 : ByteArray) (a2 : ByteArray) (r1 : List (S71)) (r2 : Bool) (w : World) (hr0_0 : Kd.C k71 w A0_0 l0_0.length l0_0) (hc0_0 : l0_0.length ≤ c0_0) (h : impl_PutKey.f l0_0 a1 a2 = some (r1, r2)) :
  Calls Try.prog 41 #[.agg #[.slice A0_0 l0_0.length c0_0], .string a1, .string a2] w fun e w' => ∃ v0_ : Value, e = .returned (.tuple #[.agg #[v0_], .bool r2]) ∧ Kd.R k71 71 w' w.heap.size (fun _ => True) v0_ r1 ∧ Below w.heap.size w w' := by
 unfold impl_PutKey.f at h
 split at h
 ·
  rename_i hs
  have h1 := Option.some.inj h
  have := TrG.putKey l0_0 A0_0 c0_0 a1 a2 w hr0_0 hc0_0 hs.1 (by omega) (by omega)
  rw [h1] at this
  exact this
 ·
  cases h

end Go.Proofs.Ytjknkeipginpcaa.PQ
end

section
-- Written by a program of this session (pprint.py) out of the translation's print; Lean checks it.
namespace Go.Proofs.Ytjknkeipginpcaa.PQ
open Go.RowKit Go.Proofs.YtjknkeipginpcaaW.PrintWords Go.Proofs.YtjknkeipginpcaaW.PrintLast Go.Proofs.YtjknkeipginpcaaW.PrintMore
attribute [local go_sem] max2_int min2_int max_two min_two max_three min_three max_four min_four   -- for this text's walks alone
set_option linter.unusedVariables false
set_option linter.unusedSimpArgs false

/-! ### laws_FnExactPutKey: function 11 -/
mutual
def laws_FnExactPutKey.j0 : Nat → ByteArray → ByteArray → Bool → Bool → Bool → List (S99) → List (S71) → List (S71) → List (S71) → Option (Bool)
 | 0, _, _, _, _, _, _, _, _, _ => none
 | k + 1, x1, x2, x9, x12, x54, x746000, x755000, x759000, x764000 => if x54 = true then (some false) else ((laws_toTreap.f k x746000).bind fun t765 => ((laws_eqTreap.f k x759000 t765).bind fun t768 => (if t768 = true then ((laws_markTreap.f k x759000 1).bind fun bt769 => (if bt769.1 < 0 then (laws_FnExactPutKey.j1 k x1 x2 x9 true x746000 x755000 x764000) else ((laws_eqTreap.f k x764000 x755000).bind fun t771 => (if t771 = true then (laws_FnExactPutKey.j1 k x1 x2 x9 (x12 != x9) x746000 x755000 x764000) else (laws_FnExactPutKey.j1 k x1 x2 x9 true x746000 x755000 x764000))))) else (some false))))
def laws_FnExactPutKey.j1 : Nat → ByteArray → ByteArray → Bool → Bool → List (S99) → List (S71) → List (S71) → Option (Bool)
 | 0, _, _, _, _, _, _, _ => none
 | k + 1, x1, x2, x9, x75, x746000, x755000, x764000 => if x75 = true then (some false) else ((laws_markTreap.f k x764000 1).bind fun bt772 => ((laws_heldTreap.f k bt772.2 1).bind fun t774 => (if t774 < 0 then (some false) else (if t774 = bt772.1 then ((laws_toTreap.f k x746000).bind fun t775 => ((impl_PutKey.f t775 x1 x2).bind fun bt778 => ((laws_eqTreap.f k bt778.1 x755000).bind fun t783 => (if t783 = true then (laws_FnExactPutKey.j2 k bt772.1 (bt778.2 != x9) bt772.2) else (laws_FnExactPutKey.j2 k bt772.1 true bt772.2))))) else (some false)))))
def laws_FnExactPutKey.j2 : Nat → Int → Bool → List (S71) → Option (Bool)
 | 0, _, _, _ => none
 | k + 1, x14, x103, x764000 => if x103 = true then (some false) else ((laws_heldTreap.f k x764000 1).bind fun t784 => (if t784 < 0 then (some false) else (if t784 = x14 then (some true) else (some false))))
end
def laws_FnExactPutKey.f (k : Nat) (l0_0 : List (S99)) (a1 : ByteArray) (a2 : ByteArray) : Option (Bool) := if (a1.size : Int) > 1048576 then (some true) else (if (a2.size : Int) > 1048576 then (some true) else ((laws_szTreap.f k l0_0 1048576).bind fun t746 => (if t746 < 0 then (some true) else ((laws_toTreap.f k l0_0).bind fun t747 => ((spec_PutKey.f k t747 a1 a2).bind fun bt750 => ((laws_toTreap.f k l0_0).bind fun t755 => ((impl_PutKey.f t755 a1 a2).bind fun bt759 => ((laws_eqTreap.f k bt759.1 bt750.1).bind fun t764 => (if t764 = true then (laws_FnExactPutKey.j0 k a1 a2 bt750.2 bt759.2 (bt759.2 != bt750.2) l0_0 bt750.1 t755 bt759.1) else (laws_FnExactPutKey.j0 k a1 a2 bt750.2 bt759.2 true l0_0 bt750.1 t755 bt759.1))))))))))
theorem laws_FnExactPutKey.mono_l : ∀ k, (∀ y0 y1 y2 y3 y4 y5 y6 y7 y8, LeO (laws_FnExactPutKey.j0 k y0 y1 y2 y3 y4 y5 y6 y7 y8) (laws_FnExactPutKey.j0 (k + 1) y0 y1 y2 y3 y4 y5 y6 y7 y8)) ∧ (∀ y0 y1 y2 y3 y4 y5 y6, LeO (laws_FnExactPutKey.j1 k y0 y1 y2 y3 y4 y5 y6) (laws_FnExactPutKey.j1 (k + 1) y0 y1 y2 y3 y4 y5 y6)) ∧ (∀ y0 y1 y2, LeO (laws_FnExactPutKey.j2 k y0 y1 y2) (laws_FnExactPutKey.j2 (k + 1) y0 y1 y2))
 | 0 => ⟨fun _ _ _ _ _ _ _ _ _ r h => by simp [laws_FnExactPutKey.j0] at h, fun _ _ _ _ _ _ _ r h => by simp [laws_FnExactPutKey.j1] at h, fun _ _ _ r h => by simp [laws_FnExactPutKey.j2] at h⟩
 | k + 1 => by
  obtain ⟨ih0, ih1, ih2⟩ := laws_FnExactPutKey.mono_l k
  refine ⟨?_, ?_, ?_⟩
  ·
   intro y0 y1 y2 y3 y4 y5 y6 y7 y8
   unfold laws_FnExactPutKey.j0
   repeat' first
   | (with_reducible exact ih0 _ _ _ _ _ _ _ _ _)
   | (with_reducible exact ih1 _ _ _ _ _ _ _)
   | (with_reducible exact ih2 _ _ _)
   | (with_reducible exact laws_eqTreap.mono _ _ _)
   | (with_reducible exact laws_heldTreap.mono _ _ _)
   | (with_reducible exact laws_markTreap.mono _ _ _)
   | (with_reducible exact laws_szTreap.mono _ _ _)
   | (with_reducible exact laws_toTreap.mono _ _)
   | (with_reducible exact spec_PutKey.mono _ _ _ _)
   | (with_reducible exact LeO.refl _)
   | (with_reducible exact LeO.none _)
   | (with_reducible refine LeO.ite ?_ ?_)
   | (with_reducible refine LeO.bind ?_ (fun _ => ?_))
   | exact ih0 _ _ _ _ _ _ _ _ _
   | exact ih1 _ _ _ _ _ _ _
   | exact ih2 _ _ _
   | exact laws_eqTreap.mono _ _ _
   | exact laws_heldTreap.mono _ _ _
   | exact laws_markTreap.mono _ _ _
   | exact laws_szTreap.mono _ _ _
   | exact laws_toTreap.mono _ _
   | exact spec_PutKey.mono _ _ _ _
   | exact LeO.none _
   | refine LeO.ite ?_ ?_
   | refine LeO.bind ?_ (fun _ => ?_)
  ·
   intro y0 y1 y2 y3 y4 y5 y6
   unfold laws_FnExactPutKey.j1
   repeat' first
   | (with_reducible exact ih0 _ _ _ _ _ _ _ _ _)
   | (with_reducible exact ih1 _ _ _ _ _ _ _)
   | (with_reducible exact ih2 _ _ _)
   | (with_reducible exact laws_eqTreap.mono _ _ _)
   | (with_reducible exact laws_heldTreap.mono _ _ _)
   | (with_reducible exact laws_markTreap.mono _ _ _)
   | (with_reducible exact laws_szTreap.mono _ _ _)
   | (with_reducible exact laws_toTreap.mono _ _)
   | (with_reducible exact spec_PutKey.mono _ _ _ _)
   | (with_reducible exact LeO.refl _)
   | (with_reducible exact LeO.none _)
   | (with_reducible refine LeO.ite ?_ ?_)
   | (with_reducible refine LeO.bind ?_ (fun _ => ?_))
   | exact ih0 _ _ _ _ _ _ _ _ _
   | exact ih1 _ _ _ _ _ _ _
   | exact ih2 _ _ _
   | exact laws_eqTreap.mono _ _ _
   | exact laws_heldTreap.mono _ _ _
   | exact laws_markTreap.mono _ _ _
   | exact laws_szTreap.mono _ _ _
   | exact laws_toTreap.mono _ _
   | exact spec_PutKey.mono _ _ _ _
   | exact LeO.none _
   | refine LeO.ite ?_ ?_
   | refine LeO.bind ?_ (fun _ => ?_)
  ·
   intro y0 y1 y2
   unfold laws_FnExactPutKey.j2
   repeat' first
   | (with_reducible exact ih0 _ _ _ _ _ _ _ _ _)
   | (with_reducible exact ih1 _ _ _ _ _ _ _)
   | (with_reducible exact ih2 _ _ _)
   | (with_reducible exact laws_eqTreap.mono _ _ _)
   | (with_reducible exact laws_heldTreap.mono _ _ _)
   | (with_reducible exact laws_markTreap.mono _ _ _)
   | (with_reducible exact laws_szTreap.mono _ _ _)
   | (with_reducible exact laws_toTreap.mono _ _)
   | (with_reducible exact spec_PutKey.mono _ _ _ _)
   | (with_reducible exact LeO.refl _)
   | (with_reducible exact LeO.none _)
   | (with_reducible refine LeO.ite ?_ ?_)
   | (with_reducible refine LeO.bind ?_ (fun _ => ?_))
   | exact ih0 _ _ _ _ _ _ _ _ _
   | exact ih1 _ _ _ _ _ _ _
   | exact ih2 _ _ _
   | exact laws_eqTreap.mono _ _ _
   | exact laws_heldTreap.mono _ _ _
   | exact laws_markTreap.mono _ _ _
   | exact laws_szTreap.mono _ _ _
   | exact laws_toTreap.mono _ _
   | exact spec_PutKey.mono _ _ _ _
   | exact LeO.none _
   | refine LeO.ite ?_ ?_
   | refine LeO.bind ?_ (fun _ => ?_)
theorem laws_FnExactPutKey.mono : ∀ a0 a1 a2 k, LeO (laws_FnExactPutKey.f k a0 a1 a2) (laws_FnExactPutKey.f (k + 1) a0 a1 a2) := by
 intro a0 a1 a2 k
 obtain ⟨ih0, ih1, ih2⟩ := laws_FnExactPutKey.mono_l k
 unfold laws_FnExactPutKey.f
 repeat' first
   | (with_reducible exact ih0 _ _ _ _ _ _ _ _ _)
   | (with_reducible exact ih1 _ _ _ _ _ _ _)
   | (with_reducible exact ih2 _ _ _)
   | (with_reducible exact laws_eqTreap.mono _ _ _)
   | (with_reducible exact laws_heldTreap.mono _ _ _)
   | (with_reducible exact laws_markTreap.mono _ _ _)
   | (with_reducible exact laws_szTreap.mono _ _ _)
   | (with_reducible exact laws_toTreap.mono _ _)
   | (with_reducible exact spec_PutKey.mono _ _ _ _)
   | (with_reducible exact LeO.refl _)
   | (with_reducible exact LeO.none _)
   | (with_reducible refine LeO.ite ?_ ?_)
   | (with_reducible refine LeO.bind ?_ (fun _ => ?_))
   | exact ih0 _ _ _ _ _ _ _ _ _
   | exact ih1 _ _ _ _ _ _ _
   | exact ih2 _ _ _
   | exact laws_eqTreap.mono _ _ _
   | exact laws_heldTreap.mono _ _ _
   | exact laws_markTreap.mono _ _ _
   | exact laws_szTreap.mono _ _ _
   | exact laws_toTreap.mono _ _
   | exact spec_PutKey.mono _ _ _ _
   | exact LeO.none _
   | refine LeO.ite ?_ ?_
   | refine LeO.bind ?_ (fun _ => ?_)
set_option maxHeartbeats 8000000 in
set_option maxRecDepth 100000 in
theorem laws_FnExactPutKey.calls (k : Nat) (A0_0 : Option Addr) (c0_0 : Nat) (l0_0 : List (S99)) (a1 : ByteArray) (a2 : ByteArray) (r : Bool) (w : World) (hr0_0 : Kd.C k99 w A0_0 l0_0.length l0_0) (hc0_0 : l0_0.length ≤ c0_0) (h : laws_FnExactPutKey.f k l0_0 a1 a2 = some r) :
  Calls Try.prog 11 #[.agg #[.slice A0_0 l0_0.length c0_0], .string a1, .string a2] w fun e w' => e = .returned (.bool r) ∧ Below w.heap.size w w' := by
 have hu24 := Try.underlying24
 have hu29 := Try.underlying29
 have HR0_0 := Aside0.mk hr0_0
 have HC0_0 := Aside0.mk hc0_0
 clear hr0_0 hc0_0
 have HB := Aside0.mk (Below.refl w.heap.size w)
 have H : (if (a1.size : Int) > 1048576 then (some true) else (if (a2.size : Int) > 1048576 then (some true) else ((laws_szTreap.f k l0_0 1048576).bind fun t746 => (if t746 < 0 then (some true) else ((laws_toTreap.f k l0_0).bind fun t747 => ((spec_PutKey.f k t747 a1 a2).bind fun bt750 => ((laws_toTreap.f k l0_0).bind fun t755 => ((impl_PutKey.f t755 a1 a2).bind fun bt759 => ((laws_eqTreap.f k bt759.1 bt750.1).bind fun t764 => (if t764 = true then (laws_FnExactPutKey.j0 k a1 a2 bt750.2 bt759.2 (bt759.2 != bt750.2) l0_0 bt750.1 t755 bt759.1) else (laws_FnExactPutKey.j0 k a1 a2 bt750.2 bt759.2 true l0_0 bt750.1 t755 bt759.1))))))))))) = some r := h
 clear h
 by_cases c4 : (a1.size : Int) > 1048576
 ·
  rw [if_pos c4] at H
  have c4b0 : decide (1048576 < (a1.size : Int)) = true := decide_eq_true c4
  have c4b1 : decide (1048576 < a1.size) = true := decide_eq_true (by omega)
  clear c4
  obtain rfl := Option.some.inj H
  go_enter Try.func11, Try.ntmps11
  go_wp2_with (first | ((with_reducible refine gate_dst (N := 3) rfl ?_); refine box_event ?hg (N := 3) ?hd (cs := #[.slice A0_0 l0_0.length c0_0]) (t := 24) ?hr ?_; (case hd => rfl); (case hg => rfl); (case hr => first | (go_simp; done) | (go_simp; rfl)); intro gb745 hg w5 hbox hb; have n0_ := Aside0.mk (below_step (by repeat (first | (with_reducible first | exact HB.out | apply below_alloc | apply pw_below_drewN | apply below_drew1) | exact HB.out)) hb); have n1_ := Aside0.mk (hbox); have n2_ := Aside0.mk ((by rw [hg]; exact (below_size (by repeat (first | (with_reducible first | exact HB.out | apply below_alloc | apply pw_below_drewN | apply below_drew1) | exact HB.out))) : w.heap.size ≤ gb745)); have n3_ := Aside0.mk ((by rw [hg]; exact (below_size (by repeat (first | (with_reducible first | exact HB.out | apply below_alloc | apply pw_below_drewN | apply below_drew1) | exact HB.out))) : w.heap.size ≤ gb745)); clear HB; have HB := n0_; have BK745 := n1_; have GW745 := n2_; have GE745 := n3_; clear n0_ n1_ n2_ n3_; clear hb hbox hg))
  go_ret
  exact ⟨by first | rfl | (simp [errW_none, errW_some] <;> rfl) | (simp [*, errW_none, errW_some] <;> rfl), by repeat (first | (with_reducible first | exact HB.out | apply below_alloc | apply pw_below_drewN | apply below_drew1 | refine below_set ?_ GE745.out) | exact HB.out)⟩
 ·
  rw [if_neg c4] at H
  have c4b0 : decide (1048576 < (a1.size : Int)) = false := decide_eq_false c4
  have c4b1 : decide (1048576 < a1.size) = false := decide_eq_false (by omega)
  clear c4
  by_cases c6 : (a2.size : Int) > 1048576
  ·
   rw [if_pos c6] at H
   have c6b0 : decide (1048576 < (a2.size : Int)) = true := decide_eq_true c6
   have c6b1 : decide (1048576 < a2.size) = true := decide_eq_true (by omega)
   clear c6
   obtain rfl := Option.some.inj H
   go_enter Try.func11, Try.ntmps11
   go_wp2_with (first | ((with_reducible refine gate_dst (N := 3) rfl ?_); refine box_event ?hg (N := 3) ?hd (cs := #[.slice A0_0 l0_0.length c0_0]) (t := 24) ?hr ?_; (case hd => rfl); (case hg => rfl); (case hr => first | (go_simp; done) | (go_simp; rfl)); intro gb745 hg w7 hbox hb; have n0_ := Aside0.mk (below_step (by repeat (first | (with_reducible first | exact HB.out | apply below_alloc | apply pw_below_drewN | apply below_drew1) | exact HB.out)) hb); have n1_ := Aside0.mk (hbox); have n2_ := Aside0.mk ((by rw [hg]; exact (below_size (by repeat (first | (with_reducible first | exact HB.out | apply below_alloc | apply pw_below_drewN | apply below_drew1) | exact HB.out))) : w.heap.size ≤ gb745)); have n3_ := Aside0.mk ((by rw [hg]; exact (below_size (by repeat (first | (with_reducible first | exact HB.out | apply below_alloc | apply pw_below_drewN | apply below_drew1) | exact HB.out))) : w.heap.size ≤ gb745)); clear HB; have HB := n0_; have BK745 := n1_; have GW745 := n2_; have GE745 := n3_; clear n0_ n1_ n2_ n3_; clear hb hbox hg))
   go_ret
   exact ⟨by first | rfl | (simp [errW_none, errW_some] <;> rfl) | (simp [*, errW_none, errW_some] <;> rfl), by repeat (first | (with_reducible first | exact HB.out | apply below_alloc | apply pw_below_drewN | apply below_drew1 | refine below_set ?_ GE745.out) | exact HB.out)⟩
  ·
   rw [if_neg c6] at H
   have c6b0 : decide (1048576 < (a2.size : Int)) = false := decide_eq_false c6
   have c6b1 : decide (1048576 < a2.size) = false := decide_eq_false (by omega)
   clear c6
   replace H := Option.bind_eq_some_iff.mp H
   obtain ⟨t746, A80, H⟩ := H
   replace H : (if t746 < 0 then (some true) else ((laws_toTreap.f k l0_0).bind fun t747 => ((spec_PutKey.f k t747 a1 a2).bind fun bt750 => ((laws_toTreap.f k l0_0).bind fun t755 => ((impl_PutKey.f t755 a1 a2).bind fun bt759 => ((laws_eqTreap.f k bt759.1 bt750.1).bind fun t764 => (if t764 = true then (laws_FnExactPutKey.j0 k a1 a2 bt750.2 bt759.2 (bt759.2 != bt750.2) l0_0 bt750.1 t755 bt759.1) else (laws_FnExactPutKey.j0 k a1 a2 bt750.2 bt759.2 true l0_0 bt750.1 t755 bt759.1)))))))) = some r := H
   have A8 := Aside0.mk A80
   clear A80
   by_cases c9 : t746 < 0
   ·
    rw [if_pos c9] at H
    have c9b0 : decide (t746 < 0) = true := decide_eq_true c9
    clear c9
    obtain rfl := Option.some.inj H
    go_enter Try.func11, Try.ntmps11
    go_wp2_with (first | ((with_reducible refine gate_dst (N := 3) rfl ?_); refine box_event ?hg (N := 3) ?hd (cs := #[.slice A0_0 l0_0.length c0_0]) (t := 24) ?hr ?_; (case hd => rfl); (case hg => rfl); (case hr => first | (go_simp; done) | (go_simp; rfl)); intro gb745 hg w10 hbox hb; have n0_ := Aside0.mk (below_step (by repeat (first | (with_reducible first | exact HB.out | apply below_alloc | apply pw_below_drewN | apply below_drew1) | exact HB.out)) hb); have n1_ := Aside0.mk (hbox); have n2_ := Aside0.mk ((by rw [hg]; exact (below_size (by repeat (first | (with_reducible first | exact HB.out | apply below_alloc | apply pw_below_drewN | apply below_drew1) | exact HB.out))) : w.heap.size ≤ gb745)); have n3_ := Aside0.mk ((by rw [hg]; exact (below_size (by repeat (first | (with_reducible first | exact HB.out | apply below_alloc | apply pw_below_drewN | apply below_drew1) | exact HB.out))) : w.heap.size ≤ gb745)); clear HB; have HB := n0_; have BK745 := n1_; have GW745 := n2_; have GE745 := n3_; clear n0_ n1_ n2_ n3_; clear hb hbox hg; have hcz11_0 : w10.cell? ⟨gb745, 0, none⟩ = some (.slice A0_0 l0_0.length c0_0) := (blk_cell BK745.out 0).trans rfl; have hfz11_0 := blk_frozen BK745.out 0) | ((with_reducible refine gate_callee (f := 13) rfl ?_); refine goesL_ (some 26) rfl rfl Try.func13 (by kernel_rfl) rfl #[.agg #[.slice A0_0 l0_0.length c0_0], .int .i64 1048576] rfl (by (try simp only [List.map_toArray, List.map_cons, List.map_nil]); first | done | rfl | (simp only [List.length_drop, List.length_take]; rfl)) ?_; (with_reducible refine (laws_szTreap.calls k _ _ l0_0 1048576 t746 _ ?side1 ?side2 A8.out).mono ?_); (case side1 => repeat (first | exact (Kd.C_below HR0_0.out HB.out) | (with_reducible refine Kd.C_alloc ?_ _) | (with_reducible refine Kd.C_drewN ?_ _) | (with_reducible refine Kd.C_drew ?_))); (case side2 => exact HC0_0.out); rintro e w12 ⟨rfl, hb⟩; refine ⟨_, rfl, ?_⟩; have n0_ := Aside0.mk (blk_below (g := gb745) (o := .cells #[.slice A0_0 l0_0.length c0_0] 24 (0, 0)) (by (with_reducible repeat (first | refine blk_drewN ?_ _ | refine blk_drew ?_ | refine blk_alloc ?_ _)); exact BK745.out) hb); have n1_ := Aside0.mk (below_step (by repeat (first | (with_reducible first | exact HB.out | apply below_alloc | apply pw_below_drewN | apply below_drew1 | refine below_set ?_ GE745.out) | exact HB.out)) hb); clear BK745; clear HB; have BK745 := n0_; have HB := n1_; clear n0_ n1_; (try clear hb); (try clear hb2); (try clear hk); (try clear hi)))
    go_ret
    exact ⟨by first | rfl | (simp [errW_none, errW_some] <;> rfl) | (simp [*, errW_none, errW_some] <;> rfl), by repeat (first | (with_reducible first | exact HB.out | apply below_alloc | apply pw_below_drewN | apply below_drew1 | refine below_set ?_ GE745.out) | exact HB.out)⟩
   ·
    rw [if_neg c9] at H
    have c9b0 : decide (t746 < 0) = false := decide_eq_false c9
    clear c9
    replace H := Option.bind_eq_some_iff.mp H
    obtain ⟨t747, A130, H⟩ := H
    replace H : ((spec_PutKey.f k t747 a1 a2).bind fun bt750 => ((laws_toTreap.f k l0_0).bind fun t755 => ((impl_PutKey.f t755 a1 a2).bind fun bt759 => ((laws_eqTreap.f k bt759.1 bt750.1).bind fun t764 => (if t764 = true then (laws_FnExactPutKey.j0 k a1 a2 bt750.2 bt759.2 (bt759.2 != bt750.2) l0_0 bt750.1 t755 bt759.1) else (laws_FnExactPutKey.j0 k a1 a2 bt750.2 bt759.2 true l0_0 bt750.1 t755 bt759.1)))))) = some r := H
    have A13 := Aside0.mk A130
    clear A130
    replace H := Option.bind_eq_some_iff.mp H
    obtain ⟨⟨t750, t753⟩, A140, H⟩ := H
    replace H : ((laws_toTreap.f k l0_0).bind fun t755 => ((impl_PutKey.f t755 a1 a2).bind fun bt759 => ((laws_eqTreap.f k bt759.1 t750).bind fun t764 => (if t764 = true then (laws_FnExactPutKey.j0 k a1 a2 t753 bt759.2 (bt759.2 != t753) l0_0 t750 t755 bt759.1) else (laws_FnExactPutKey.j0 k a1 a2 t753 bt759.2 true l0_0 t750 t755 bt759.1))))) = some r := H
    have A14 := Aside0.mk A140
    clear A140
    replace H := Option.bind_eq_some_iff.mp H
    obtain ⟨t755, A150, H⟩ := H
    replace H : ((impl_PutKey.f t755 a1 a2).bind fun bt759 => ((laws_eqTreap.f k bt759.1 t750).bind fun t764 => (if t764 = true then (laws_FnExactPutKey.j0 k a1 a2 t753 bt759.2 (bt759.2 != t753) l0_0 t750 t755 bt759.1) else (laws_FnExactPutKey.j0 k a1 a2 t753 bt759.2 true l0_0 t750 t755 bt759.1)))) = some r := H
    have A15 := Aside0.mk A150
    clear A150
    replace H := Option.bind_eq_some_iff.mp H
    obtain ⟨⟨t759, t762⟩, A160, H⟩ := H
    replace H : ((laws_eqTreap.f k t759 t750).bind fun t764 => (if t764 = true then (laws_FnExactPutKey.j0 k a1 a2 t753 t762 (t762 != t753) l0_0 t750 t755 t759) else (laws_FnExactPutKey.j0 k a1 a2 t753 t762 true l0_0 t750 t755 t759))) = some r := H
    have A16 := Aside0.mk A160
    clear A160
    have HC17 := Aside0.mk H
    clear H
    go_enter Try.func11, Try.ntmps11
    go_upto_region 12 with (first | ((with_reducible refine gate_dst (N := 3) rfl ?_); refine box_event ?hg (N := 3) ?hd (cs := #[.slice A0_0 l0_0.length c0_0]) (t := 24) ?hr ?_; (case hd => rfl); (case hg => rfl); (case hr => first | (go_simp; done) | (go_simp; rfl)); intro gb745 hg w18 hbox hb; have n0_ := Aside0.mk (below_step (by repeat (first | (with_reducible first | exact HB.out | apply below_alloc | apply pw_below_drewN | apply below_drew1) | exact HB.out)) hb); have n1_ := Aside0.mk (hbox); have n2_ := Aside0.mk ((by rw [hg]; exact (below_size (by repeat (first | (with_reducible first | exact HB.out | apply below_alloc | apply pw_below_drewN | apply below_drew1) | exact HB.out))) : w.heap.size ≤ gb745)); have n3_ := Aside0.mk ((by rw [hg]; exact (below_size (by repeat (first | (with_reducible first | exact HB.out | apply below_alloc | apply pw_below_drewN | apply below_drew1) | exact HB.out))) : w.heap.size ≤ gb745)); clear HB; have HB := n0_; have BK745 := n1_; have GW745 := n2_; have GE745 := n3_; clear n0_ n1_ n2_ n3_; clear hb hbox hg; have hcz19_0 : w18.cell? ⟨gb745, 0, none⟩ = some (.slice A0_0 l0_0.length c0_0) := (blk_cell BK745.out 0).trans rfl; have hfz19_0 := blk_frozen BK745.out 0) | ((with_reducible refine gate_callee (f := 13) rfl ?_); refine goesL_ (some 26) rfl rfl Try.func13 (by kernel_rfl) rfl #[.agg #[.slice A0_0 l0_0.length c0_0], .int .i64 1048576] rfl (by (try simp only [List.map_toArray, List.map_cons, List.map_nil]); first | done | rfl | (simp only [List.length_drop, List.length_take]; rfl)) ?_; (with_reducible refine (laws_szTreap.calls k _ _ l0_0 1048576 t746 _ ?side1 ?side2 A8.out).mono ?_); (case side1 => repeat (first | exact (Kd.C_below HR0_0.out HB.out) | (with_reducible refine Kd.C_alloc ?_ _) | (with_reducible refine Kd.C_drewN ?_ _) | (with_reducible refine Kd.C_drew ?_))); (case side2 => exact HC0_0.out); rintro e w20 ⟨rfl, hb⟩; refine ⟨_, rfl, ?_⟩; have n0_ := Aside0.mk (blk_below (g := gb745) (o := .cells #[.slice A0_0 l0_0.length c0_0] 24 (0, 0)) (by (with_reducible repeat (first | refine blk_drewN ?_ _ | refine blk_drew ?_ | refine blk_alloc ?_ _)); exact BK745.out) hb); have n1_ := Aside0.mk (below_step (by repeat (first | (with_reducible first | exact HB.out | apply below_alloc | apply pw_below_drewN | apply below_drew1 | refine below_set ?_ GE745.out) | exact HB.out)) hb); clear BK745; clear HB; have BK745 := n0_; have HB := n1_; clear n0_ n1_; (try clear hb); (try clear hb2); (try clear hk); (try clear hi); have hcz21_0 : w20.cell? ⟨gb745, 0, none⟩ = some (.slice A0_0 l0_0.length c0_0) := (blk_cell BK745.out 0).trans rfl; have hfz21_0 := blk_frozen BK745.out 0) | ((with_reducible refine gate_callee (f := 15) rfl ?_); refine goesL_ (some 31) rfl rfl Try.func15 (by kernel_rfl) rfl #[.agg #[.slice A0_0 l0_0.length c0_0]] rfl (by (try simp only [List.map_toArray, List.map_cons, List.map_nil]); first | done | rfl | (simp only [List.length_drop, List.length_take]; rfl)) ?_; (with_reducible refine (laws_toTreap.calls k _ _ l0_0 t747 _ ?side1 ?side2 A13.out).mono ?_); (case side1 => repeat (first | exact (Kd.C_below HR0_0.out HB.out) | (with_reducible refine Kd.C_alloc ?_ _) | (with_reducible refine Kd.C_drewN ?_ _) | (with_reducible refine Kd.C_drew ?_))); (case side2 => exact HC0_0.out); rintro e w22 ⟨v748, rfl, ho0, hb⟩; refine ⟨_, rfl, ?_⟩; have n0_ := Aside0.mk (Kd.R_lower ho0 (below_size (by repeat (first | (with_reducible first | exact HB.out | apply below_alloc | apply pw_below_drewN | apply below_drew1 | refine below_set ?_ GE745.out) | exact HB.out)))); have n1_ := Aside0.mk (blk_below (g := gb745) (o := .cells #[.slice A0_0 l0_0.length c0_0] 24 (0, 0)) (by (with_reducible repeat (first | refine blk_drewN ?_ _ | refine blk_drew ?_ | refine blk_alloc ?_ _)); exact BK745.out) hb); have n2_ := Aside0.mk (below_step (by repeat (first | (with_reducible first | exact HB.out | apply below_alloc | apply pw_below_drewN | apply below_drew1 | refine below_set ?_ GE745.out) | exact HB.out)) hb); clear BK745; clear HB; have HO749 := n0_; have BK745 := n1_; have HB := n2_; clear n0_ n1_ n2_; (try clear hb); (try clear hb2); (try clear hk); (try clear hi); (try clear ho0); obtain ⟨Ao23, co23, eo23⟩ := Kd.R_slice HO749.out; subst eo23) | ((with_reducible refine gate_callee (f := 40) rfl ?_); refine goesL_ (some 34) rfl rfl Try.func40 (by kernel_rfl) rfl #[.agg #[.slice Ao23 t747.length co23], .string a1, .string a2] rfl (by (try simp only [List.map_toArray, List.map_cons, List.map_nil]); first | done | rfl | (simp only [List.length_drop, List.length_take]; rfl)) ?_; (with_reducible refine (spec_PutKey.calls k _ _ t747 a1 a2 t750 t753 _ ?side1 ?side2 A14.out).mono ?_); (case side1 => repeat (first | exact (Kd.R_reads' HO749.out).2.2 | (with_reducible refine Kd.C_alloc ?_ _) | (with_reducible refine Kd.C_drewN ?_ _) | (with_reducible refine Kd.C_drew ?_))); (case side2 => exact (Kd.R_reads' HO749.out).2.1); rintro e w24 ⟨v751, rfl, ho0, hb⟩; refine ⟨_, rfl, ?_⟩; have n0_ := Aside0.mk (Kd.R_elder' (by (with_reducible repeat (first | apply Kd.R_alloc | apply Kd.R_drewN | apply Kd.R_drew)); exact HO749.out) (Kd.R_base ho0) hb); have n1_ := Aside0.mk (Kd.R_lower (Kd.R_new' ho0 (Kd.R_lt (by (with_reducible repeat (first | apply Kd.R_alloc | apply Kd.R_drewN | apply Kd.R_drew)); exact HO749.out))) (below_size (by repeat (first | (with_reducible first | exact HB.out | apply below_alloc | apply pw_below_drewN | apply below_drew1 | refine below_set ?_ GE745.out) | exact HB.out)))); have n2_ := Aside0.mk (blk_below (g := gb745) (o := .cells #[.slice A0_0 l0_0.length c0_0] 24 (0, 0)) (by (with_reducible repeat (first | refine blk_drewN ?_ _ | refine blk_drew ?_ | refine blk_alloc ?_ _)); exact BK745.out) hb); have n3_ := Aside0.mk (below_step (by repeat (first | (with_reducible first | exact HB.out | apply below_alloc | apply pw_below_drewN | apply below_drew1 | refine below_set ?_ GE745.out) | exact HB.out)) hb); clear HO749; clear BK745; clear HB; have HO749 := n0_; have HO752 := n1_; have BK745 := n2_; have HB := n3_; clear n0_ n1_ n2_ n3_; (try clear hb); (try clear hb2); (try clear hk); (try clear hi); (try clear ho0)) | ((with_reducible refine gate_dst (N := 8) rfl ?_); refine box_event ?hg (N := 8) ?hd (cs := #[.slice none 0 0]) (t := 29) ?hr ?_; (case hd => rfl); (case hg => rfl); (case hr => first | (go_simp; done) | (go_simp; rfl)); intro gb754 hg w25 hbox hb; have n0_ := Aside0.mk (Kd.R_below (by (with_reducible repeat (first | apply Kd.R_alloc | apply Kd.R_drewN | apply Kd.R_drew)); exact HO749.out) hb); have n1_ := Aside0.mk (Kd.R_below (by (with_reducible repeat (first | apply Kd.R_alloc | apply Kd.R_drewN | apply Kd.R_drew)); exact HO752.out) hb); have n2_ := Aside0.mk (blk_below (g := gb745) (o := .cells #[.slice A0_0 l0_0.length c0_0] 24 (0, 0)) (by (with_reducible repeat (first | refine blk_drewN ?_ _ | refine blk_drew ?_ | refine blk_alloc ?_ _)); exact BK745.out) hb); have n3_ := Aside0.mk (below_step (by repeat (first | (with_reducible first | exact HB.out | apply below_alloc | apply pw_below_drewN | apply below_drew1 | refine below_set ?_ GE745.out) | exact HB.out)) hb); have n4_ := Aside0.mk (hbox); have n5_ := Aside0.mk ((by rw [hg]; exact (below_size (by repeat (first | (with_reducible first | exact HB.out | apply below_alloc | apply pw_below_drewN | apply below_drew1 | refine below_set ?_ GE745.out) | exact HB.out))) : w.heap.size ≤ gb754)); have n6_ := Aside0.mk ((by rw [hg]; exact (below_size (by repeat (first | (with_reducible first | exact HB.out | apply below_alloc | apply pw_below_drewN | apply below_drew1 | refine below_set ?_ GE745.out) | exact HB.out))) : w.heap.size ≤ gb754)); have n7_ := Aside0.mk ((by rw [hg]; exact Nat.ne_of_lt (blk_lt (g := gb745) (o := .cells #[.slice A0_0 l0_0.length c0_0] 24 (0, 0)) (by (with_reducible repeat (first | refine blk_drewN ?_ _ | refine blk_drew ?_ | refine blk_alloc ?_ _)); exact BK745.out)) : gb745 ≠ gb754)); have n8_ := Aside0.mk ((by rw [hg]; exact Nat.ne_of_gt (blk_lt (g := gb745) (o := .cells #[.slice A0_0 l0_0.length c0_0] 24 (0, 0)) (by (with_reducible repeat (first | refine blk_drewN ?_ _ | refine blk_drew ?_ | refine blk_alloc ?_ _)); exact BK745.out)) : gb754 ≠ gb745)); clear HO749; clear HO752; clear BK745; clear HB; have HO749 := n0_; have HO752 := n1_; have BK745 := n2_; have HB := n3_; have BK754 := n4_; have GW754 := n5_; have GE754 := n6_; have NB745_754 := n7_; have NB754_745 := n8_; clear n0_ n1_ n2_ n3_ n4_ n5_ n6_ n7_ n8_; clear hb hbox hg; obtain ⟨Ao26, co26, eo26⟩ := Kd.R_slice HO752.out; subst eo26; have hnb27 := NB754_745.out; have hnc27 := NB745_754.out; have hcz28_0 : w25.cell? ⟨gb754, 0, none⟩ = some (.slice none 0 0) := (blk_cell BK754.out 0).trans rfl; have hfz28_0 := blk_frozen BK754.out 0; have hcz29_0 : w25.cell? ⟨gb745, 0, none⟩ = some (.slice A0_0 l0_0.length c0_0) := (blk_cell BK745.out 0).trans rfl; have hfz29_0 := blk_frozen BK745.out 0) | ((with_reducible refine gate_callee (f := 15) rfl ?_); refine goesL_ (some 38) rfl rfl Try.func15 (by kernel_rfl) rfl #[.agg #[.slice A0_0 l0_0.length c0_0]] rfl (by (try simp only [List.map_toArray, List.map_cons, List.map_nil]); first | done | rfl | (simp only [List.length_drop, List.length_take]; rfl)) ?_; (with_reducible refine (laws_toTreap.calls k _ _ l0_0 t755 _ ?side1 ?side2 A15.out).mono ?_); (case side1 => exact Kd.C_below HR0_0.out (by repeat (first | (with_reducible first | exact HB.out | apply below_alloc | apply pw_below_drewN | apply below_drew1 | refine below_set ?_ GE745.out | refine below_set ?_ GE754.out) | exact HB.out))); (case side2 => exact HC0_0.out); rintro e w30 ⟨v756, rfl, ho0, hb⟩; refine ⟨_, rfl, ?_⟩; have n0_ := Aside0.mk (Kd.R_elder' (by (with_reducible repeat (first | apply Kd.R_alloc | apply Kd.R_drewN | apply Kd.R_drew)); exact (Kd.R_mono (Kd.R_far (p := ⟨gb754, 0, none⟩) (Kd.R_types HO749.out BK754.out (by decide)) (fun _ hk => hk.2) (.slice Ao26 t750.length co26)) (fun _ h_ => h_.1))) (Kd.R_base ho0) hb); have n1_ := Aside0.mk (Kd.R_elder' (by (with_reducible repeat (first | apply Kd.R_alloc | apply Kd.R_drewN | apply Kd.R_drew)); exact (Kd.R_mono (Kd.R_far (p := ⟨gb754, 0, none⟩) (Kd.R_types HO752.out BK754.out (by decide)) (fun _ hk => hk.2) (.slice Ao26 t750.length co26)) (fun _ h_ => h_.1))) (Kd.R_base ho0) hb); have n2_ := Aside0.mk (Kd.R_lower (Kd.R_new' (Kd.R_new' ho0 (Kd.R_lt (by (with_reducible repeat (first | apply Kd.R_alloc | apply Kd.R_drewN | apply Kd.R_drew)); exact (Kd.R_mono (Kd.R_far (p := ⟨gb754, 0, none⟩) (Kd.R_types HO749.out BK754.out (by decide)) (fun _ hk => hk.2) (.slice Ao26 t750.length co26)) (fun _ h_ => h_.1))))) (Kd.R_lt (by (with_reducible repeat (first | apply Kd.R_alloc | apply Kd.R_drewN | apply Kd.R_drew)); exact (Kd.R_mono (Kd.R_far (p := ⟨gb754, 0, none⟩) (Kd.R_types HO752.out BK754.out (by decide)) (fun _ hk => hk.2) (.slice Ao26 t750.length co26)) (fun _ h_ => h_.1))))) (below_size (by repeat (first | (with_reducible first | exact HB.out | apply below_alloc | apply pw_below_drewN | apply below_drew1 | refine below_set ?_ GE745.out | refine below_set ?_ GE754.out) | exact HB.out)))); have n3_ := Aside0.mk (blk_below (g := gb745) (o := .cells #[.slice A0_0 l0_0.length c0_0] 24 (0, 0)) (by (with_reducible repeat (first | refine blk_drewN ?_ _ | refine blk_drew ?_ | refine blk_alloc ?_ _)); refine blk_far ?_ NB745_754.out _; (with_reducible repeat (first | refine blk_drewN ?_ _ | refine blk_drew ?_ | refine blk_alloc ?_ _)); exact BK745.out) hb); have n4_ := Aside0.mk (blk_below (g := gb754) (o := .cells #[.slice Ao26 t750.length co26] 29 (0, 0)) (by (with_reducible repeat (first | refine blk_drewN ?_ _ | refine blk_drew ?_ | refine blk_alloc ?_ _)); refine blk_put (cs := #[.slice none 0 0]) ?_ 0 _ rfl; (with_reducible repeat (first | refine blk_drewN ?_ _ | refine blk_drew ?_ | refine blk_alloc ?_ _)); exact BK754.out) hb); have n5_ := Aside0.mk (below_step (by repeat (first | (with_reducible first | exact HB.out | apply below_alloc | apply pw_below_drewN | apply below_drew1 | refine below_set ?_ GE745.out | refine below_set ?_ GE754.out) | exact HB.out)) hb); clear HO749; clear HO752; clear BK745; clear BK754; clear HB; have HO749 := n0_; have HO752 := n1_; have HO757 := n2_; have BK745 := n3_; have BK754 := n4_; have HB := n5_; clear n0_ n1_ n2_ n3_ n4_ n5_; (try clear hb); (try clear hb2); (try clear hk); (try clear hi); (try clear ho0)) | ((with_reducible refine gate_dst (N := 10) rfl ?_); refine box_event ?hg (N := 10) ?hd (cs := #[.slice none 0 0]) (t := 29) ?hr ?_; (case hd => rfl); (case hg => rfl); (case hr => first | (go_simp; done) | (go_simp; rfl)); intro gb758 hg w31 hbox hb; have n0_ := Aside0.mk (Kd.R_below (by (with_reducible repeat (first | apply Kd.R_alloc | apply Kd.R_drewN | apply Kd.R_drew)); exact HO749.out) hb); have n1_ := Aside0.mk (Kd.R_below (by (with_reducible repeat (first | apply Kd.R_alloc | apply Kd.R_drewN | apply Kd.R_drew)); exact HO752.out) hb); have n2_ := Aside0.mk (Kd.R_below (by (with_reducible repeat (first | apply Kd.R_alloc | apply Kd.R_drewN | apply Kd.R_drew)); exact HO757.out) hb); have n3_ := Aside0.mk (blk_below (g := gb745) (o := .cells #[.slice A0_0 l0_0.length c0_0] 24 (0, 0)) (by (with_reducible repeat (first | refine blk_drewN ?_ _ | refine blk_drew ?_ | refine blk_alloc ?_ _)); exact BK745.out) hb); have n4_ := Aside0.mk (blk_below (g := gb754) (o := .cells #[.slice Ao26 t750.length co26] 29 (0, 0)) (by (with_reducible repeat (first | refine blk_drewN ?_ _ | refine blk_drew ?_ | refine blk_alloc ?_ _)); exact BK754.out) hb); have n5_ := Aside0.mk (below_step (by repeat (first | (with_reducible first | exact HB.out | apply below_alloc | apply pw_below_drewN | apply below_drew1 | refine below_set ?_ GE745.out | refine below_set ?_ GE754.out) | exact HB.out)) hb); have n6_ := Aside0.mk (hbox); have n7_ := Aside0.mk ((by rw [hg]; exact (below_size (by repeat (first | (with_reducible first | exact HB.out | apply below_alloc | apply pw_below_drewN | apply below_drew1 | refine below_set ?_ GE745.out | refine below_set ?_ GE754.out) | exact HB.out))) : w.heap.size ≤ gb758)); have n8_ := Aside0.mk ((by rw [hg]; exact (below_size (by repeat (first | (with_reducible first | exact HB.out | apply below_alloc | apply pw_below_drewN | apply below_drew1 | refine below_set ?_ GE745.out | refine below_set ?_ GE754.out) | exact HB.out))) : w.heap.size ≤ gb758)); have n9_ := Aside0.mk ((by rw [hg]; exact Nat.ne_of_lt (blk_lt (g := gb745) (o := .cells #[.slice A0_0 l0_0.length c0_0] 24 (0, 0)) (by (with_reducible repeat (first | refine blk_drewN ?_ _ | refine blk_drew ?_ | refine blk_alloc ?_ _)); exact BK745.out)) : gb745 ≠ gb758)); have n10_ := Aside0.mk ((by rw [hg]; exact Nat.ne_of_gt (blk_lt (g := gb745) (o := .cells #[.slice A0_0 l0_0.length c0_0] 24 (0, 0)) (by (with_reducible repeat (first | refine blk_drewN ?_ _ | refine blk_drew ?_ | refine blk_alloc ?_ _)); exact BK745.out)) : gb758 ≠ gb745)); have n11_ := Aside0.mk ((by rw [hg]; exact Nat.ne_of_lt (blk_lt (g := gb754) (o := .cells #[.slice Ao26 t750.length co26] 29 (0, 0)) (by (with_reducible repeat (first | refine blk_drewN ?_ _ | refine blk_drew ?_ | refine blk_alloc ?_ _)); exact BK754.out)) : gb754 ≠ gb758)); have n12_ := Aside0.mk ((by rw [hg]; exact Nat.ne_of_gt (blk_lt (g := gb754) (o := .cells #[.slice Ao26 t750.length co26] 29 (0, 0)) (by (with_reducible repeat (first | refine blk_drewN ?_ _ | refine blk_drew ?_ | refine blk_alloc ?_ _)); exact BK754.out)) : gb758 ≠ gb754)); clear HO749; clear HO752; clear HO757; clear BK745; clear BK754; clear HB; have HO749 := n0_; have HO752 := n1_; have HO757 := n2_; have BK745 := n3_; have BK754 := n4_; have HB := n5_; have BK758 := n6_; have GW758 := n7_; have GE758 := n8_; have NB745_758 := n9_; have NB758_745 := n10_; have NB754_758 := n11_; have NB758_754 := n12_; clear n0_ n1_ n2_ n3_ n4_ n5_ n6_ n7_ n8_ n9_ n10_ n11_ n12_; clear hb hbox hg; obtain ⟨Ao32, co32, eo32⟩ := Kd.R_slice HO757.out; subst eo32; have hnb33 := NB758_745.out; have hnc33 := NB745_758.out; have hnb34 := NB758_754.out; have hnc34 := NB754_758.out; have hcz35_0 : w31.cell? ⟨gb758, 0, none⟩ = some (.slice none 0 0) := (blk_cell BK758.out 0).trans rfl; have hfz35_0 := blk_frozen BK758.out 0) | ((with_reducible refine gate_callee (f := 41) rfl ?_); refine goesL_ (some 43) rfl rfl Try.func41 (by kernel_rfl) rfl #[.agg #[.slice Ao32 t755.length co32], .string a1, .string a2] rfl (by (try simp only [List.map_toArray, List.map_cons, List.map_nil]); first | done | rfl | (simp only [List.length_drop, List.length_take]; rfl)) ?_; (with_reducible refine (impl_PutKey.calls _ _ t755 a1 a2 t759 t762 _ ?side1 ?side2 A16.out).mono ?_); (case side1 => refine (Kd.R_reads' (e := 71) (base := w.heap.size) (ok := fun k_ => ((True ∧ some k_ ≠ (.slice Ao23 t747.length co23 : Value).ownBlock) ∧ some k_ ≠ (.slice Ao26 t750.length co26 : Value).ownBlock)) (n := t755.length) (c := co32) ?_).2.2; exact (by (with_reducible repeat (first | apply Kd.R_alloc | apply Kd.R_drewN | apply Kd.R_drew)); exact (Kd.R_mono (Kd.R_far (p := ⟨gb758, 0, none⟩) (Kd.R_types HO757.out BK758.out (by decide)) (fun _ hk => hk.2) (.slice Ao32 t755.length co32)) (fun _ h_ => h_.1)))); (case side2 => exact (Kd.R_reads' HO757.out).2.1); rintro e w36 ⟨v760, rfl, ho0, hb⟩; refine ⟨_, rfl, ?_⟩; have n0_ := Aside0.mk (Kd.R_elder' (by (with_reducible repeat (first | apply Kd.R_alloc | apply Kd.R_drewN | apply Kd.R_drew)); exact (Kd.R_mono (Kd.R_far (p := ⟨gb758, 0, none⟩) (Kd.R_types HO749.out BK758.out (by decide)) (fun _ hk => hk.2) (.slice Ao32 t755.length co32)) (fun _ h_ => h_.1))) (Kd.R_base ho0) hb); have n1_ := Aside0.mk (Kd.R_elder' (by (with_reducible repeat (first | apply Kd.R_alloc | apply Kd.R_drewN | apply Kd.R_drew)); exact (Kd.R_mono (Kd.R_far (p := ⟨gb758, 0, none⟩) (Kd.R_types HO752.out BK758.out (by decide)) (fun _ hk => hk.2) (.slice Ao32 t755.length co32)) (fun _ h_ => h_.1))) (Kd.R_base ho0) hb); have n2_ := Aside0.mk (Kd.R_elder' (by (with_reducible repeat (first | apply Kd.R_alloc | apply Kd.R_drewN | apply Kd.R_drew)); exact (Kd.R_mono (Kd.R_far (p := ⟨gb758, 0, none⟩) (Kd.R_types HO757.out BK758.out (by decide)) (fun _ hk => hk.2) (.slice Ao32 t755.length co32)) (fun _ h_ => h_.1))) (Kd.R_base ho0) hb); have n3_ := Aside0.mk (Kd.R_lower (Kd.R_new' (Kd.R_new' (Kd.R_new' ho0 (Kd.R_lt (by (with_reducible repeat (first | apply Kd.R_alloc | apply Kd.R_drewN | apply Kd.R_drew)); exact (Kd.R_mono (Kd.R_far (p := ⟨gb758, 0, none⟩) (Kd.R_types HO749.out BK758.out (by decide)) (fun _ hk => hk.2) (.slice Ao32 t755.length co32)) (fun _ h_ => h_.1))))) (Kd.R_lt (by (with_reducible repeat (first | apply Kd.R_alloc | apply Kd.R_drewN | apply Kd.R_drew)); exact (Kd.R_mono (Kd.R_far (p := ⟨gb758, 0, none⟩) (Kd.R_types HO752.out BK758.out (by decide)) (fun _ hk => hk.2) (.slice Ao32 t755.length co32)) (fun _ h_ => h_.1))))) (Kd.R_lt (by (with_reducible repeat (first | apply Kd.R_alloc | apply Kd.R_drewN | apply Kd.R_drew)); exact (Kd.R_mono (Kd.R_far (p := ⟨gb758, 0, none⟩) (Kd.R_types HO757.out BK758.out (by decide)) (fun _ hk => hk.2) (.slice Ao32 t755.length co32)) (fun _ h_ => h_.1))))) (below_size (by repeat (first | (with_reducible first | exact HB.out | apply below_alloc | apply pw_below_drewN | apply below_drew1 | refine below_set ?_ GE745.out | refine below_set ?_ GE754.out | refine below_set ?_ GE758.out) | exact HB.out)))); have n4_ := Aside0.mk (blk_below (g := gb745) (o := .cells #[.slice A0_0 l0_0.length c0_0] 24 (0, 0)) (by (with_reducible repeat (first | refine blk_drewN ?_ _ | refine blk_drew ?_ | refine blk_alloc ?_ _)); refine blk_far ?_ NB745_758.out _; (with_reducible repeat (first | refine blk_drewN ?_ _ | refine blk_drew ?_ | refine blk_alloc ?_ _)); exact BK745.out) hb); have n5_ := Aside0.mk (blk_below (g := gb754) (o := .cells #[.slice Ao26 t750.length co26] 29 (0, 0)) (by (with_reducible repeat (first | refine blk_drewN ?_ _ | refine blk_drew ?_ | refine blk_alloc ?_ _)); refine blk_far ?_ NB754_758.out _; (with_reducible repeat (first | refine blk_drewN ?_ _ | refine blk_drew ?_ | refine blk_alloc ?_ _)); exact BK754.out) hb); have n6_ := Aside0.mk (blk_below (g := gb758) (o := .cells #[.slice Ao32 t755.length co32] 29 (0, 0)) (by (with_reducible repeat (first | refine blk_drewN ?_ _ | refine blk_drew ?_ | refine blk_alloc ?_ _)); refine blk_put (cs := #[.slice none 0 0]) ?_ 0 _ rfl; (with_reducible repeat (first | refine blk_drewN ?_ _ | refine blk_drew ?_ | refine blk_alloc ?_ _)); exact BK758.out) hb); have n7_ := Aside0.mk (below_step (by repeat (first | (with_reducible first | exact HB.out | apply below_alloc | apply pw_below_drewN | apply below_drew1 | refine below_set ?_ GE745.out | refine below_set ?_ GE754.out | refine below_set ?_ GE758.out) | exact HB.out)) hb); clear HO749; clear HO752; clear HO757; clear BK745; clear BK754; clear BK758; clear HB; have HO749 := n0_; have HO752 := n1_; have HO757 := n2_; have HO761 := n3_; have BK745 := n4_; have BK754 := n5_; have BK758 := n6_; have HB := n7_; clear n0_ n1_ n2_ n3_ n4_ n5_ n6_ n7_; (try clear hb); (try clear hb2); (try clear hk); (try clear hi); (try clear ho0)) | ((with_reducible refine gate_dst (N := 11) rfl ?_); refine box_event ?hg (N := 11) ?hd (cs := #[.slice none 0 0]) (t := 29) ?hr ?_; (case hd => rfl); (case hg => rfl); (case hr => first | (go_simp; done) | (go_simp; rfl)); intro gb763 hg w37 hbox hb; have n0_ := Aside0.mk (Kd.R_below (by (with_reducible repeat (first | apply Kd.R_alloc | apply Kd.R_drewN | apply Kd.R_drew)); exact HO749.out) hb); have n1_ := Aside0.mk (Kd.R_below (by (with_reducible repeat (first | apply Kd.R_alloc | apply Kd.R_drewN | apply Kd.R_drew)); exact HO752.out) hb); have n2_ := Aside0.mk (Kd.R_below (by (with_reducible repeat (first | apply Kd.R_alloc | apply Kd.R_drewN | apply Kd.R_drew)); exact HO757.out) hb); have n3_ := Aside0.mk (Kd.R_below (by (with_reducible repeat (first | apply Kd.R_alloc | apply Kd.R_drewN | apply Kd.R_drew)); exact HO761.out) hb); have n4_ := Aside0.mk (blk_below (g := gb745) (o := .cells #[.slice A0_0 l0_0.length c0_0] 24 (0, 0)) (by (with_reducible repeat (first | refine blk_drewN ?_ _ | refine blk_drew ?_ | refine blk_alloc ?_ _)); exact BK745.out) hb); have n5_ := Aside0.mk (blk_below (g := gb754) (o := .cells #[.slice Ao26 t750.length co26] 29 (0, 0)) (by (with_reducible repeat (first | refine blk_drewN ?_ _ | refine blk_drew ?_ | refine blk_alloc ?_ _)); exact BK754.out) hb); have n6_ := Aside0.mk (blk_below (g := gb758) (o := .cells #[.slice Ao32 t755.length co32] 29 (0, 0)) (by (with_reducible repeat (first | refine blk_drewN ?_ _ | refine blk_drew ?_ | refine blk_alloc ?_ _)); exact BK758.out) hb); have n7_ := Aside0.mk (below_step (by repeat (first | (with_reducible first | exact HB.out | apply below_alloc | apply pw_below_drewN | apply below_drew1 | refine below_set ?_ GE745.out | refine below_set ?_ GE754.out | refine below_set ?_ GE758.out) | exact HB.out)) hb); have n8_ := Aside0.mk (hbox); have n9_ := Aside0.mk ((by rw [hg]; exact (below_size (by repeat (first | (with_reducible first | exact HB.out | apply below_alloc | apply pw_below_drewN | apply below_drew1 | refine below_set ?_ GE745.out | refine below_set ?_ GE754.out | refine below_set ?_ GE758.out) | exact HB.out))) : w.heap.size ≤ gb763)); have n10_ := Aside0.mk ((by rw [hg]; exact (below_size (by repeat (first | (with_reducible first | exact HB.out | apply below_alloc | apply pw_below_drewN | apply below_drew1 | refine below_set ?_ GE745.out | refine below_set ?_ GE754.out | refine below_set ?_ GE758.out) | exact HB.out))) : w.heap.size ≤ gb763)); have n11_ := Aside0.mk ((by rw [hg]; exact Nat.ne_of_lt (blk_lt (g := gb745) (o := .cells #[.slice A0_0 l0_0.length c0_0] 24 (0, 0)) (by (with_reducible repeat (first | refine blk_drewN ?_ _ | refine blk_drew ?_ | refine blk_alloc ?_ _)); exact BK745.out)) : gb745 ≠ gb763)); have n12_ := Aside0.mk ((by rw [hg]; exact Nat.ne_of_gt (blk_lt (g := gb745) (o := .cells #[.slice A0_0 l0_0.length c0_0] 24 (0, 0)) (by (with_reducible repeat (first | refine blk_drewN ?_ _ | refine blk_drew ?_ | refine blk_alloc ?_ _)); exact BK745.out)) : gb763 ≠ gb745)); have n13_ := Aside0.mk ((by rw [hg]; exact Nat.ne_of_lt (blk_lt (g := gb754) (o := .cells #[.slice Ao26 t750.length co26] 29 (0, 0)) (by (with_reducible repeat (first | refine blk_drewN ?_ _ | refine blk_drew ?_ | refine blk_alloc ?_ _)); exact BK754.out)) : gb754 ≠ gb763)); have n14_ := Aside0.mk ((by rw [hg]; exact Nat.ne_of_gt (blk_lt (g := gb754) (o := .cells #[.slice Ao26 t750.length co26] 29 (0, 0)) (by (with_reducible repeat (first | refine blk_drewN ?_ _ | refine blk_drew ?_ | refine blk_alloc ?_ _)); exact BK754.out)) : gb763 ≠ gb754)); have n15_ := Aside0.mk ((by rw [hg]; exact Nat.ne_of_lt (blk_lt (g := gb758) (o := .cells #[.slice Ao32 t755.length co32] 29 (0, 0)) (by (with_reducible repeat (first | refine blk_drewN ?_ _ | refine blk_drew ?_ | refine blk_alloc ?_ _)); exact BK758.out)) : gb758 ≠ gb763)); have n16_ := Aside0.mk ((by rw [hg]; exact Nat.ne_of_gt (blk_lt (g := gb758) (o := .cells #[.slice Ao32 t755.length co32] 29 (0, 0)) (by (with_reducible repeat (first | refine blk_drewN ?_ _ | refine blk_drew ?_ | refine blk_alloc ?_ _)); exact BK758.out)) : gb763 ≠ gb758)); clear HO749; clear HO752; clear HO757; clear HO761; clear BK745; clear BK754; clear BK758; clear HB; have HO749 := n0_; have HO752 := n1_; have HO757 := n2_; have HO761 := n3_; have BK745 := n4_; have BK754 := n5_; have BK758 := n6_; have HB := n7_; have BK763 := n8_; have GW763 := n9_; have GE763 := n10_; have NB745_763 := n11_; have NB763_745 := n12_; have NB754_763 := n13_; have NB763_754 := n14_; have NB758_763 := n15_; have NB763_758 := n16_; clear n0_ n1_ n2_ n3_ n4_ n5_ n6_ n7_ n8_ n9_ n10_ n11_ n12_ n13_ n14_ n15_ n16_; clear hb hbox hg; obtain ⟨Ao38, co38, eo38⟩ := Kd.R_slice HO761.out; subst eo38; have hnb39 := NB763_745.out; have hnc39 := NB745_763.out; have hnb40 := NB763_754.out; have hnc40 := NB754_763.out; have hnb41 := NB763_758.out; have hnc41 := NB758_763.out; have hcz42_0 : w37.cell? ⟨gb763, 0, none⟩ = some (.slice none 0 0) := (blk_cell BK763.out 0).trans rfl; have hfz42_0 := blk_frozen BK763.out 0))
    (try simp only [Act.put, List.setIfInBounds_toArray, List.set_cons_zero, List.set_cons_succ])
    go_cut [54] (fun v54 wc => ∃ (kq : Nat) (x54_16 : Bool), v54 = .bool x54_16 ∧ Aside0 (laws_FnExactPutKey.j0 kq a1 a2 t753 t762 x54_16 l0_0 t750 t755 t759 = some r) ∧ Aside0 (kq ≤ k) ∧ Aside0 (Kd.R k71 71 wc w.heap.size (fun k_ => some k_ ≠ ((.slice Ao32 t755.length co32) : Value).ownBlock ∧ some k_ ≠ ((.slice Ao38 t759.length co38) : Value).ownBlock) (.slice Ao26 t750.length co26) t750) ∧ Aside0 (Kd.R k71 71 wc w.heap.size (fun k_ => some k_ ≠ ((.slice Ao26 t750.length co26) : Value).ownBlock ∧ some k_ ≠ ((.slice Ao38 t759.length co38) : Value).ownBlock) (.slice Ao32 t755.length co32) t755) ∧ Aside0 (Kd.R k71 71 wc w.heap.size (fun k_ => some k_ ≠ ((.slice Ao26 t750.length co26) : Value).ownBlock ∧ some k_ ≠ ((.slice Ao32 t755.length co32) : Value).ownBlock) (.slice Ao38 t759.length co38) t759) ∧ Aside0 (wc.heap[gb745]? = some (.cells #[(.slice A0_0 l0_0.length c0_0)] 24 (0, 0))) ∧ Aside0 (wc.heap[gb754]? = some (.cells #[(.slice Ao26 t750.length co26)] 29 (0, 0))) ∧ Aside0 (wc.heap[gb758]? = some (.cells #[(.slice Ao32 t755.length co32)] 29 (0, 0))) ∧ Aside0 (wc.heap[gb763]? = some (.cells #[(.slice Ao38 t759.length co38)] 29 (0, 0))) ∧ Aside0 (Below w.heap.size w wc))
    case first =>
     have H := HC17.out
     clear HC17
     replace H := Option.bind_eq_some_iff.mp H
     obtain ⟨t764, A430, H⟩ := H
     replace H : (if t764 = true then (laws_FnExactPutKey.j0 k a1 a2 t753 t762 (t762 != t753) l0_0 t750 t755 t759) else (laws_FnExactPutKey.j0 k a1 a2 t753 t762 true l0_0 t750 t755 t759)) = some r := H
     have A43 := Aside0.mk A430
     clear A430
     by_cases c44 : t764 = true
     ·
      subst c44
      have H1 : (laws_FnExactPutKey.j0 k a1 a2 t753 t762 (t762 != t753) l0_0 t750 t755 t759) = some r := by rw [if_pos rfl] at H; exact H
      clear H
      have H := H1
      clear H1
      have H' := Aside0.mk H
      clear H
      have hnb45 := NB763_745.out
      have hnc45 := NB745_763.out
      have hnb46 := NB763_754.out
      have hnc46 := NB754_763.out
      have hnb47 := NB763_758.out
      have hnc47 := NB758_763.out
      have hcz48_0 : w37.cell? ⟨gb763, 0, none⟩ = some (.slice none 0 0) := (blk_cell BK763.out 0).trans rfl
      have hfz48_0 := blk_frozen BK763.out 0
      have hnb49 := NB754_745.out
      have hnc49 := NB745_754.out
      have hnb50 := NB754_758.out
      have hnc50 := NB758_754.out
      have hcz51_0 : w37.cell? ⟨gb754, 0, none⟩ = some (.slice Ao26 t750.length co26) := (blk_cell BK754.out 0).trans rfl
      have hfz51_0 := blk_frozen BK754.out 0
      go_wp2_with (first | ((with_reducible refine gate_callee (f := 17) rfl ?_); refine goesL_ (some 48) rfl rfl Try.func17 (by kernel_rfl) rfl #[.agg #[.slice Ao38 t759.length co38], .agg #[.slice Ao26 t750.length co26]] rfl (by (try simp only [List.map_toArray, List.map_cons, List.map_nil]); first | done | rfl | (simp only [List.length_drop, List.length_take]; rfl)) ?_; (with_reducible refine (laws_eqTreap.calls k _ _ t759 _ _ t750 true _ ?side1 ?side2 ?side3 ?side4 A43.out).mono ?_); (case side1 => refine (Kd.R_reads' (e := 71) (base := w.heap.size) (ok := fun k_ => (((True ∧ some k_ ≠ (.slice Ao23 t747.length co23 : Value).ownBlock) ∧ some k_ ≠ (.slice Ao26 t750.length co26 : Value).ownBlock) ∧ some k_ ≠ (.slice Ao32 t755.length co32 : Value).ownBlock)) (n := t759.length) (c := co38) ?_).2.2; exact (by (with_reducible repeat (first | apply Kd.R_alloc | apply Kd.R_drewN | apply Kd.R_drew)); exact (Kd.R_mono (Kd.R_far (p := ⟨gb763, 0, none⟩) (Kd.R_types HO761.out BK763.out (by decide)) (fun _ hk => hk.2) (.slice Ao38 t759.length co38)) (fun _ h_ => h_.1)))); (case side2 => exact (Kd.R_reads' HO761.out).2.1); (case side3 => refine (Kd.R_reads' (e := 71) (base := w.heap.size) (ok := fun k_ => (((True ∧ some k_ ≠ (.slice Ao23 t747.length co23 : Value).ownBlock) ∧ some k_ ≠ (.slice Ao32 t755.length co32 : Value).ownBlock) ∧ some k_ ≠ (.slice Ao38 t759.length co38 : Value).ownBlock)) (n := t750.length) (c := co26) ?_).2.2; exact (by (with_reducible repeat (first | apply Kd.R_alloc | apply Kd.R_drewN | apply Kd.R_drew)); exact (Kd.R_mono (Kd.R_far (p := ⟨gb763, 0, none⟩) (Kd.R_types HO752.out BK763.out (by decide)) (fun _ hk => hk.2) (.slice Ao38 t759.length co38)) (fun _ h_ => h_.1)))); (case side4 => exact (Kd.R_reads' HO752.out).2.1); rintro e w52 ⟨rfl, hb⟩; refine ⟨_, rfl, ?_⟩; have n0_ := Aside0.mk (Kd.R_below (by (with_reducible repeat (first | apply Kd.R_alloc | apply Kd.R_drewN | apply Kd.R_drew)); exact (Kd.R_mono (Kd.R_far (p := ⟨gb763, 0, none⟩) (Kd.R_types HO749.out BK763.out (by decide)) (fun _ hk => hk.2) (.slice Ao38 t759.length co38)) (fun _ h_ => h_.1))) hb); have n1_ := Aside0.mk (Kd.R_below (by (with_reducible repeat (first | apply Kd.R_alloc | apply Kd.R_drewN | apply Kd.R_drew)); exact (Kd.R_mono (Kd.R_far (p := ⟨gb763, 0, none⟩) (Kd.R_types HO752.out BK763.out (by decide)) (fun _ hk => hk.2) (.slice Ao38 t759.length co38)) (fun _ h_ => h_.1))) hb); have n2_ := Aside0.mk (Kd.R_below (by (with_reducible repeat (first | apply Kd.R_alloc | apply Kd.R_drewN | apply Kd.R_drew)); exact (Kd.R_mono (Kd.R_far (p := ⟨gb763, 0, none⟩) (Kd.R_types HO757.out BK763.out (by decide)) (fun _ hk => hk.2) (.slice Ao38 t759.length co38)) (fun _ h_ => h_.1))) hb); have n3_ := Aside0.mk (Kd.R_below (by (with_reducible repeat (first | apply Kd.R_alloc | apply Kd.R_drewN | apply Kd.R_drew)); exact (Kd.R_mono (Kd.R_far (p := ⟨gb763, 0, none⟩) (Kd.R_types HO761.out BK763.out (by decide)) (fun _ hk => hk.2) (.slice Ao38 t759.length co38)) (fun _ h_ => h_.1))) hb); have n4_ := Aside0.mk (blk_below (g := gb745) (o := .cells #[.slice A0_0 l0_0.length c0_0] 24 (0, 0)) (by (with_reducible repeat (first | refine blk_drewN ?_ _ | refine blk_drew ?_ | refine blk_alloc ?_ _)); refine blk_far ?_ NB745_763.out _; (with_reducible repeat (first | refine blk_drewN ?_ _ | refine blk_drew ?_ | refine blk_alloc ?_ _)); exact BK745.out) hb); have n5_ := Aside0.mk (blk_below (g := gb754) (o := .cells #[.slice Ao26 t750.length co26] 29 (0, 0)) (by (with_reducible repeat (first | refine blk_drewN ?_ _ | refine blk_drew ?_ | refine blk_alloc ?_ _)); refine blk_far ?_ NB754_763.out _; (with_reducible repeat (first | refine blk_drewN ?_ _ | refine blk_drew ?_ | refine blk_alloc ?_ _)); exact BK754.out) hb); have n6_ := Aside0.mk (blk_below (g := gb758) (o := .cells #[.slice Ao32 t755.length co32] 29 (0, 0)) (by (with_reducible repeat (first | refine blk_drewN ?_ _ | refine blk_drew ?_ | refine blk_alloc ?_ _)); refine blk_far ?_ NB758_763.out _; (with_reducible repeat (first | refine blk_drewN ?_ _ | refine blk_drew ?_ | refine blk_alloc ?_ _)); exact BK758.out) hb); have n7_ := Aside0.mk (blk_below (g := gb763) (o := .cells #[.slice Ao38 t759.length co38] 29 (0, 0)) (by (with_reducible repeat (first | refine blk_drewN ?_ _ | refine blk_drew ?_ | refine blk_alloc ?_ _)); refine blk_put (cs := #[.slice none 0 0]) ?_ 0 _ rfl; (with_reducible repeat (first | refine blk_drewN ?_ _ | refine blk_drew ?_ | refine blk_alloc ?_ _)); exact BK763.out) hb); have n8_ := Aside0.mk (below_step (by repeat (first | (with_reducible first | exact HB.out | apply below_alloc | apply pw_below_drewN | apply below_drew1 | refine below_set ?_ GE745.out | refine below_set ?_ GE754.out | refine below_set ?_ GE758.out | refine below_set ?_ GE763.out) | exact HB.out)) hb); clear HO749; clear HO752; clear HO757; clear HO761; clear BK745; clear BK754; clear BK758; clear BK763; clear HB; have HO749 := n0_; have HO752 := n1_; have HO757 := n2_; have HO761 := n3_; have BK745 := n4_; have BK754 := n5_; have BK758 := n6_; have BK763 := n7_; have HB := n8_; clear n0_ n1_ n2_ n3_ n4_ n5_ n6_ n7_ n8_; (try clear hb); (try clear hb2); (try clear hk); (try clear hi)))
      go_meet
      case rel => exact ⟨_, ((t762 != t753)), (by first | rfl | (simp; done) | (simp [*]; done)), H', ⟨by first | omega | exact Nat.le_refl _⟩, ⟨by (with_reducible repeat (first | apply Kd.R_alloc | apply Kd.R_drewN | apply Kd.R_drew)); exact Kd.R_mono HO752.out (fun _ hk => ⟨hk.1.2, hk.2⟩)⟩, ⟨by (with_reducible repeat (first | apply Kd.R_alloc | apply Kd.R_drewN | apply Kd.R_drew)); exact Kd.R_mono HO757.out (fun _ hk => ⟨hk.1.2, hk.2⟩)⟩, ⟨by (with_reducible repeat (first | apply Kd.R_alloc | apply Kd.R_drewN | apply Kd.R_drew)); exact Kd.R_mono HO761.out (fun _ hk => ⟨hk.1.2, hk.2⟩)⟩, ⟨by (with_reducible repeat (first | refine blk_drewN ?_ _ | refine blk_drew ?_ | refine blk_alloc ?_ _)); exact BK745.out⟩, ⟨by (with_reducible repeat (first | refine blk_drewN ?_ _ | refine blk_drew ?_ | refine blk_alloc ?_ _)); exact BK754.out⟩, ⟨by (with_reducible repeat (first | refine blk_drewN ?_ _ | refine blk_drew ?_ | refine blk_alloc ?_ _)); exact BK758.out⟩, ⟨by (with_reducible repeat (first | refine blk_drewN ?_ _ | refine blk_drew ?_ | refine blk_alloc ?_ _)); exact BK763.out⟩, ⟨by repeat (first | (with_reducible first | exact HB.out | apply below_alloc | apply pw_below_drewN | apply below_drew1 | refine below_set ?_ GE745.out | refine below_set ?_ GE754.out | refine below_set ?_ GE758.out | refine below_set ?_ GE763.out) | exact HB.out)⟩⟩
     ·
      replace c44 := Bool.eq_false_iff.mpr c44
      subst c44
      have H1 : (laws_FnExactPutKey.j0 k a1 a2 t753 t762 true l0_0 t750 t755 t759) = some r := by rw [if_neg (show ¬ (false = true) by decide)] at H; exact H
      clear H
      have H := H1
      clear H1
      have H' := Aside0.mk H
      clear H
      have hnb53 := NB763_745.out
      have hnc53 := NB745_763.out
      have hnb54 := NB763_754.out
      have hnc54 := NB754_763.out
      have hnb55 := NB763_758.out
      have hnc55 := NB758_763.out
      have hcz56_0 : w37.cell? ⟨gb763, 0, none⟩ = some (.slice none 0 0) := (blk_cell BK763.out 0).trans rfl
      have hfz56_0 := blk_frozen BK763.out 0
      have hnb57 := NB754_745.out
      have hnc57 := NB745_754.out
      have hnb58 := NB754_758.out
      have hnc58 := NB758_754.out
      have hcz59_0 : w37.cell? ⟨gb754, 0, none⟩ = some (.slice Ao26 t750.length co26) := (blk_cell BK754.out 0).trans rfl
      have hfz59_0 := blk_frozen BK754.out 0
      go_wp2_with (first | ((with_reducible refine gate_callee (f := 17) rfl ?_); refine goesL_ (some 48) rfl rfl Try.func17 (by kernel_rfl) rfl #[.agg #[.slice Ao38 t759.length co38], .agg #[.slice Ao26 t750.length co26]] rfl (by (try simp only [List.map_toArray, List.map_cons, List.map_nil]); first | done | rfl | (simp only [List.length_drop, List.length_take]; rfl)) ?_; (with_reducible refine (laws_eqTreap.calls k _ _ t759 _ _ t750 false _ ?side1 ?side2 ?side3 ?side4 A43.out).mono ?_); (case side1 => refine (Kd.R_reads' (e := 71) (base := w.heap.size) (ok := fun k_ => (((True ∧ some k_ ≠ (.slice Ao23 t747.length co23 : Value).ownBlock) ∧ some k_ ≠ (.slice Ao26 t750.length co26 : Value).ownBlock) ∧ some k_ ≠ (.slice Ao32 t755.length co32 : Value).ownBlock)) (n := t759.length) (c := co38) ?_).2.2; exact (by (with_reducible repeat (first | apply Kd.R_alloc | apply Kd.R_drewN | apply Kd.R_drew)); exact (Kd.R_mono (Kd.R_far (p := ⟨gb763, 0, none⟩) (Kd.R_types HO761.out BK763.out (by decide)) (fun _ hk => hk.2) (.slice Ao38 t759.length co38)) (fun _ h_ => h_.1)))); (case side2 => exact (Kd.R_reads' HO761.out).2.1); (case side3 => refine (Kd.R_reads' (e := 71) (base := w.heap.size) (ok := fun k_ => (((True ∧ some k_ ≠ (.slice Ao23 t747.length co23 : Value).ownBlock) ∧ some k_ ≠ (.slice Ao32 t755.length co32 : Value).ownBlock) ∧ some k_ ≠ (.slice Ao38 t759.length co38 : Value).ownBlock)) (n := t750.length) (c := co26) ?_).2.2; exact (by (with_reducible repeat (first | apply Kd.R_alloc | apply Kd.R_drewN | apply Kd.R_drew)); exact (Kd.R_mono (Kd.R_far (p := ⟨gb763, 0, none⟩) (Kd.R_types HO752.out BK763.out (by decide)) (fun _ hk => hk.2) (.slice Ao38 t759.length co38)) (fun _ h_ => h_.1)))); (case side4 => exact (Kd.R_reads' HO752.out).2.1); rintro e w60 ⟨rfl, hb⟩; refine ⟨_, rfl, ?_⟩; have n0_ := Aside0.mk (Kd.R_below (by (with_reducible repeat (first | apply Kd.R_alloc | apply Kd.R_drewN | apply Kd.R_drew)); exact (Kd.R_mono (Kd.R_far (p := ⟨gb763, 0, none⟩) (Kd.R_types HO749.out BK763.out (by decide)) (fun _ hk => hk.2) (.slice Ao38 t759.length co38)) (fun _ h_ => h_.1))) hb); have n1_ := Aside0.mk (Kd.R_below (by (with_reducible repeat (first | apply Kd.R_alloc | apply Kd.R_drewN | apply Kd.R_drew)); exact (Kd.R_mono (Kd.R_far (p := ⟨gb763, 0, none⟩) (Kd.R_types HO752.out BK763.out (by decide)) (fun _ hk => hk.2) (.slice Ao38 t759.length co38)) (fun _ h_ => h_.1))) hb); have n2_ := Aside0.mk (Kd.R_below (by (with_reducible repeat (first | apply Kd.R_alloc | apply Kd.R_drewN | apply Kd.R_drew)); exact (Kd.R_mono (Kd.R_far (p := ⟨gb763, 0, none⟩) (Kd.R_types HO757.out BK763.out (by decide)) (fun _ hk => hk.2) (.slice Ao38 t759.length co38)) (fun _ h_ => h_.1))) hb); have n3_ := Aside0.mk (Kd.R_below (by (with_reducible repeat (first | apply Kd.R_alloc | apply Kd.R_drewN | apply Kd.R_drew)); exact (Kd.R_mono (Kd.R_far (p := ⟨gb763, 0, none⟩) (Kd.R_types HO761.out BK763.out (by decide)) (fun _ hk => hk.2) (.slice Ao38 t759.length co38)) (fun _ h_ => h_.1))) hb); have n4_ := Aside0.mk (blk_below (g := gb745) (o := .cells #[.slice A0_0 l0_0.length c0_0] 24 (0, 0)) (by (with_reducible repeat (first | refine blk_drewN ?_ _ | refine blk_drew ?_ | refine blk_alloc ?_ _)); refine blk_far ?_ NB745_763.out _; (with_reducible repeat (first | refine blk_drewN ?_ _ | refine blk_drew ?_ | refine blk_alloc ?_ _)); exact BK745.out) hb); have n5_ := Aside0.mk (blk_below (g := gb754) (o := .cells #[.slice Ao26 t750.length co26] 29 (0, 0)) (by (with_reducible repeat (first | refine blk_drewN ?_ _ | refine blk_drew ?_ | refine blk_alloc ?_ _)); refine blk_far ?_ NB754_763.out _; (with_reducible repeat (first | refine blk_drewN ?_ _ | refine blk_drew ?_ | refine blk_alloc ?_ _)); exact BK754.out) hb); have n6_ := Aside0.mk (blk_below (g := gb758) (o := .cells #[.slice Ao32 t755.length co32] 29 (0, 0)) (by (with_reducible repeat (first | refine blk_drewN ?_ _ | refine blk_drew ?_ | refine blk_alloc ?_ _)); refine blk_far ?_ NB758_763.out _; (with_reducible repeat (first | refine blk_drewN ?_ _ | refine blk_drew ?_ | refine blk_alloc ?_ _)); exact BK758.out) hb); have n7_ := Aside0.mk (blk_below (g := gb763) (o := .cells #[.slice Ao38 t759.length co38] 29 (0, 0)) (by (with_reducible repeat (first | refine blk_drewN ?_ _ | refine blk_drew ?_ | refine blk_alloc ?_ _)); refine blk_put (cs := #[.slice none 0 0]) ?_ 0 _ rfl; (with_reducible repeat (first | refine blk_drewN ?_ _ | refine blk_drew ?_ | refine blk_alloc ?_ _)); exact BK763.out) hb); have n8_ := Aside0.mk (below_step (by repeat (first | (with_reducible first | exact HB.out | apply below_alloc | apply pw_below_drewN | apply below_drew1 | refine below_set ?_ GE745.out | refine below_set ?_ GE754.out | refine below_set ?_ GE758.out | refine below_set ?_ GE763.out) | exact HB.out)) hb); clear HO749; clear HO752; clear HO757; clear HO761; clear BK745; clear BK754; clear BK758; clear BK763; clear HB; have HO749 := n0_; have HO752 := n1_; have HO757 := n2_; have HO761 := n3_; have BK745 := n4_; have BK754 := n5_; have BK758 := n6_; have BK763 := n7_; have HB := n8_; clear n0_ n1_ n2_ n3_ n4_ n5_ n6_ n7_ n8_; (try clear hb); (try clear hb2); (try clear hk); (try clear hi)))
      go_meet
      case rel => exact ⟨_, (true), (by first | rfl | (simp; done) | (simp [*]; done)), H', ⟨by first | omega | exact Nat.le_refl _⟩, ⟨by (with_reducible repeat (first | apply Kd.R_alloc | apply Kd.R_drewN | apply Kd.R_drew)); exact Kd.R_mono HO752.out (fun _ hk => ⟨hk.1.2, hk.2⟩)⟩, ⟨by (with_reducible repeat (first | apply Kd.R_alloc | apply Kd.R_drewN | apply Kd.R_drew)); exact Kd.R_mono HO757.out (fun _ hk => ⟨hk.1.2, hk.2⟩)⟩, ⟨by (with_reducible repeat (first | apply Kd.R_alloc | apply Kd.R_drewN | apply Kd.R_drew)); exact Kd.R_mono HO761.out (fun _ hk => ⟨hk.1.2, hk.2⟩)⟩, ⟨by (with_reducible repeat (first | refine blk_drewN ?_ _ | refine blk_drew ?_ | refine blk_alloc ?_ _)); exact BK745.out⟩, ⟨by (with_reducible repeat (first | refine blk_drewN ?_ _ | refine blk_drew ?_ | refine blk_alloc ?_ _)); exact BK754.out⟩, ⟨by (with_reducible repeat (first | refine blk_drewN ?_ _ | refine blk_drew ?_ | refine blk_alloc ?_ _)); exact BK758.out⟩, ⟨by (with_reducible repeat (first | refine blk_drewN ?_ _ | refine blk_drew ?_ | refine blk_alloc ?_ _)); exact BK763.out⟩, ⟨by repeat (first | (with_reducible first | exact HB.out | apply below_alloc | apply pw_below_drewN | apply below_drew1 | refine below_set ?_ GE745.out | refine below_set ?_ GE754.out | refine below_set ?_ GE758.out | refine below_set ?_ GE763.out) | exact HB.out)⟩⟩
    case rest =>
     clear HC17
     try clear c1
     try clear c2
     try clear p2
     try clear c3
     try clear c4
     try clear c4b0
     try clear c4b1
     try clear c5
     try clear c6
     try clear c6b0
     try clear c6b1
     try clear c9
     try clear c9b0
     try clear c11
     try clear c13
     try clear c15
     try clear c17
     try clear c27
     try clear c33
     try clear c34
     try clear c39
     try clear c40
     try clear c41
     try clear c44
     try clear c45
     try clear c46
     try clear c47
     try clear c49
     try clear c50
     try clear c53
     try clear c54
     try clear c55
     try clear c57
     try clear c58
     try clear hcz11_0
     try clear hcz19_0
     try clear hcz21_0
     try clear hcz28_0
     try clear hcz29_0
     try clear hcz35_0
     try clear hcz42_0
     try clear hcz48_0
     try clear hcz51_0
     try clear hcz56_0
     try clear hcz59_0
     try clear hfz11_0
     try clear hfz19_0
     try clear hfz21_0
     try clear hfz28_0
     try clear hfz29_0
     try clear hfz35_0
     try clear hfz42_0
     try clear hfz48_0
     try clear hfz51_0
     try clear hfz56_0
     try clear hfz59_0
     obtain ⟨kq, x54_16, rfl, HA, HJ16, HO_755000, HO_759000, HO_764000, BK745, BK754, BK758, BK763, HB⟩ := hcut
     cases kq with
     | zero => exact absurd HA.out (by simp [laws_FnExactPutKey.j0])
     | succ kj16 =>
      have H := HA.out
      clear HA
      simp only [laws_FnExactPutKey.j0] at H
      by_cases c61 : x54_16 = true
      ·
       subst c61
       have H1 : (some false) = some r := by rw [if_pos rfl] at H; exact H
       clear H
       have H := H1
       clear H1
       obtain rfl := Option.some.inj H
       go_wp2
       go_ret
       exact ⟨by first | rfl | (simp [errW_none, errW_some] <;> rfl) | (simp [*, errW_none, errW_some] <;> rfl), by repeat (first | (with_reducible first | exact HB.out | apply below_alloc | apply pw_below_drewN | apply below_drew1 | refine below_set ?_ GE745.out | refine below_set ?_ GE754.out | refine below_set ?_ GE758.out | refine below_set ?_ GE763.out) | exact HB.out)⟩
      ·
       replace c61 := Bool.eq_false_iff.mpr c61
       subst c61
       have H1 : ((laws_toTreap.f kj16 l0_0).bind fun t765 => ((laws_eqTreap.f kj16 t755 t765).bind fun t768 => (if t768 = true then ((laws_markTreap.f kj16 t755 1).bind fun bt769 => (if bt769.1 < 0 then (laws_FnExactPutKey.j1 kj16 a1 a2 t753 true l0_0 t750 t759) else ((laws_eqTreap.f kj16 t759 t750).bind fun t771 => (if t771 = true then (laws_FnExactPutKey.j1 kj16 a1 a2 t753 (t762 != t753) l0_0 t750 t759) else (laws_FnExactPutKey.j1 kj16 a1 a2 t753 true l0_0 t750 t759))))) else (some false)))) = some r := by rw [if_neg (show ¬ (false = true) by decide)] at H; exact H
       clear H
       have H := H1
       clear H1
       replace H := Option.bind_eq_some_iff.mp H
       obtain ⟨t765, A620, H⟩ := H
       replace H : ((laws_eqTreap.f kj16 t755 t765).bind fun t768 => (if t768 = true then ((laws_markTreap.f kj16 t755 1).bind fun bt769 => (if bt769.1 < 0 then (laws_FnExactPutKey.j1 kj16 a1 a2 t753 true l0_0 t750 t759) else ((laws_eqTreap.f kj16 t759 t750).bind fun t771 => (if t771 = true then (laws_FnExactPutKey.j1 kj16 a1 a2 t753 (t762 != t753) l0_0 t750 t759) else (laws_FnExactPutKey.j1 kj16 a1 a2 t753 true l0_0 t750 t759))))) else (some false))) = some r := H
       have A62 := Aside0.mk A620
       clear A620
       replace H := Option.bind_eq_some_iff.mp H
       obtain ⟨t768, A630, H⟩ := H
       replace H : (if t768 = true then ((laws_markTreap.f kj16 t755 1).bind fun bt769 => (if bt769.1 < 0 then (laws_FnExactPutKey.j1 kj16 a1 a2 t753 true l0_0 t750 t759) else ((laws_eqTreap.f kj16 t759 t750).bind fun t771 => (if t771 = true then (laws_FnExactPutKey.j1 kj16 a1 a2 t753 (t762 != t753) l0_0 t750 t759) else (laws_FnExactPutKey.j1 kj16 a1 a2 t753 true l0_0 t750 t759))))) else (some false)) = some r := H
       have A63 := Aside0.mk A630
       clear A630
       by_cases c64 : t768 = true
       ·
        subst c64
        have H1 : ((laws_markTreap.f kj16 t755 1).bind fun bt769 => (if bt769.1 < 0 then (laws_FnExactPutKey.j1 kj16 a1 a2 t753 true l0_0 t750 t759) else ((laws_eqTreap.f kj16 t759 t750).bind fun t771 => (if t771 = true then (laws_FnExactPutKey.j1 kj16 a1 a2 t753 (t762 != t753) l0_0 t750 t759) else (laws_FnExactPutKey.j1 kj16 a1 a2 t753 true l0_0 t750 t759))))) = some r := by rw [if_pos rfl] at H; exact H
        clear H
        have H := H1
        clear H1
        replace H := Option.bind_eq_some_iff.mp H
        obtain ⟨⟨t769, t770⟩, A650, H⟩ := H
        replace H : (if t769 < 0 then (laws_FnExactPutKey.j1 kj16 a1 a2 t753 true l0_0 t750 t759) else ((laws_eqTreap.f kj16 t759 t750).bind fun t771 => (if t771 = true then (laws_FnExactPutKey.j1 kj16 a1 a2 t753 (t762 != t753) l0_0 t750 t759) else (laws_FnExactPutKey.j1 kj16 a1 a2 t753 true l0_0 t750 t759)))) = some r := H
        have A65 := Aside0.mk A650
        clear A650
        have HC66 := Aside0.mk H
        clear H
        try go_wp2
        have n0_ := Aside0.mk (Kd.R_drew HO_755000.out)
        have n1_ := Aside0.mk (Kd.R_drew HO_759000.out)
        have n2_ := Aside0.mk (Kd.R_drew HO_764000.out)
        have n3_ := Aside0.mk (blk_drew BK745.out)
        have n4_ := Aside0.mk (blk_drew BK754.out)
        have n5_ := Aside0.mk (blk_drew BK758.out)
        have n6_ := Aside0.mk (blk_drew BK763.out)
        have n7_ := Aside0.mk (below_drew1 HB.out)
        clear HO_755000
        clear HO_759000
        clear HO_764000
        clear BK745
        clear BK754
        clear BK758
        clear BK763
        clear HB
        have HO_755000 := n0_
        have HO_759000 := n1_
        have HO_764000 := n2_
        have BK745 := n3_
        have BK754 := n4_
        have BK758 := n5_
        have BK763 := n6_
        have HB := n7_
        clear n0_ n1_ n2_ n3_ n4_ n5_ n6_ n7_
        refine start_ (n := 5) (S := fun w' => w'.cell? ⟨gb758, 0, none⟩ = some (.slice Ao32 t755.length co32) ∧ w'.cell? ⟨gb745, 0, none⟩ = some (.slice A0_0 l0_0.length c0_0)) (ds := []) #[false, false, false, false, false] (by kernel_rfl) rfl rfl ⟨(blk_cell BK758.out 0).trans rfl, (blk_cell BK745.out 0).trans rfl⟩ (fun hHeld => ?_)
        generalize wc.drew = w67 at HO_755000 HO_759000 HO_764000 BK745 BK754 BK758 BK763 HB hHeld ⊢
        refine take_ (i := 0) (N := some 55) (v := ?_) (a' := ?_) #[true, false, false, false, false] rfl rfl (by kernel_rfl) (fun _ _ _ h => h) (Or.inl ⟨by rfl, ?_⟩) hHeld ?_ ?_
        rotate_left
        ·
         rintro w' ⟨s0, s1⟩
         go_simp
         with_reducible rfl
        rotate_left
        ·
         simp only [Act.put, List.setIfInBounds_toArray, List.set_cons_zero, List.set_cons_succ, i64_w, i32_w]
         rfl
        refine take_ (i := 1) (N := some 56) (v := ?_) (a' := ?_) #[true, true, false, false, false] rfl rfl (by kernel_rfl) (fun _ _ _ h => h) (Or.inl ⟨by rfl, ?_⟩) hHeld ?_ ?_
        rotate_left
        ·
         rintro w' ⟨s0, s1⟩
         go_simp
         with_reducible rfl
        rotate_left
        ·
         simp only [Act.put, List.setIfInBounds_toArray, List.set_cons_zero, List.set_cons_succ, i64_w, i32_w]
         rfl
        refine one_ (i := 2) (N := some 57) #[true, true, true, false, false] rfl rfl (by kernel_rfl) (by decide) (fun K hK => ?_)
        refine goes_ Try.func15 (by kernel_rfl) rfl #[.agg #[.slice A0_0 l0_0.length c0_0]] (by rfl) rfl rfl (by (try simp only [List.map_toArray, List.map_cons, List.map_nil]); first | done | rfl | (simp only [List.length_drop, List.length_take]; rfl)) ?_
        with_reducible refine (laws_toTreap.calls kj16 _ _ l0_0 t765 _ ?side1 ?side2 A62.out).mono ?_
        (case side1 => repeat (first | exact (Kd.C_below HR0_0.out HB.out) | (with_reducible refine Kd.C_alloc ?_ _) | (with_reducible refine Kd.C_drewN ?_ _) | (with_reducible refine Kd.C_drew ?_)))
        (case side2 => exact HC0_0.out)
        rintro e w68 ⟨v766, rfl, ho0, hb⟩
        refine ⟨_, rfl, ?_⟩
        have n0_ := Aside0.mk (Kd.R_elder' (by (with_reducible repeat (first | apply Kd.R_alloc | apply Kd.R_drewN | apply Kd.R_drew)); exact HO_755000.out) (Kd.R_base ho0) hb)
        have n1_ := Aside0.mk (Kd.R_elder' (by (with_reducible repeat (first | apply Kd.R_alloc | apply Kd.R_drewN | apply Kd.R_drew)); exact HO_759000.out) (Kd.R_base ho0) hb)
        have n2_ := Aside0.mk (Kd.R_elder' (by (with_reducible repeat (first | apply Kd.R_alloc | apply Kd.R_drewN | apply Kd.R_drew)); exact HO_764000.out) (Kd.R_base ho0) hb)
        have n3_ := Aside0.mk (Kd.R_lower (Kd.R_new' (Kd.R_new' (Kd.R_new' ho0 (Kd.R_lt (by (with_reducible repeat (first | apply Kd.R_alloc | apply Kd.R_drewN | apply Kd.R_drew)); exact HO_755000.out))) (Kd.R_lt (by (with_reducible repeat (first | apply Kd.R_alloc | apply Kd.R_drewN | apply Kd.R_drew)); exact HO_759000.out))) (Kd.R_lt (by (with_reducible repeat (first | apply Kd.R_alloc | apply Kd.R_drewN | apply Kd.R_drew)); exact HO_764000.out))) (below_size (by repeat (first | (with_reducible first | exact HB.out | apply below_alloc | apply pw_below_drewN | apply below_drew1 | refine below_set ?_ GE745.out | refine below_set ?_ GE754.out | refine below_set ?_ GE758.out | refine below_set ?_ GE763.out) | exact HB.out))))
        have n4_ := Aside0.mk (blk_below (g := gb745) (o := .cells #[.slice A0_0 l0_0.length c0_0] 24 (0, 0)) (by (with_reducible repeat (first | refine blk_drewN ?_ _ | refine blk_drew ?_ | refine blk_alloc ?_ _)); exact BK745.out) hb)
        have n5_ := Aside0.mk (blk_below (g := gb754) (o := .cells #[.slice Ao26 t750.length co26] 29 (0, 0)) (by (with_reducible repeat (first | refine blk_drewN ?_ _ | refine blk_drew ?_ | refine blk_alloc ?_ _)); exact BK754.out) hb)
        have n6_ := Aside0.mk (blk_below (g := gb758) (o := .cells #[.slice Ao32 t755.length co32] 29 (0, 0)) (by (with_reducible repeat (first | refine blk_drewN ?_ _ | refine blk_drew ?_ | refine blk_alloc ?_ _)); exact BK758.out) hb)
        have n7_ := Aside0.mk (blk_below (g := gb763) (o := .cells #[.slice Ao38 t759.length co38] 29 (0, 0)) (by (with_reducible repeat (first | refine blk_drewN ?_ _ | refine blk_drew ?_ | refine blk_alloc ?_ _)); exact BK763.out) hb)
        have n8_ := Aside0.mk (below_step (by repeat (first | (with_reducible first | exact HB.out | apply below_alloc | apply pw_below_drewN | apply below_drew1 | refine below_set ?_ GE745.out | refine below_set ?_ GE754.out | refine below_set ?_ GE758.out | refine below_set ?_ GE763.out) | exact HB.out)) hb)
        clear HO_755000
        clear HO_759000
        clear HO_764000
        clear BK745
        clear BK754
        clear BK758
        clear BK763
        clear HB
        have HO_755000 := n0_
        have HO_759000 := n1_
        have HO_764000 := n2_
        have HO767 := n3_
        have BK745 := n4_
        have BK754 := n5_
        have BK758 := n6_
        have BK763 := n7_
        have HB := n8_
        clear n0_ n1_ n2_ n3_ n4_ n5_ n6_ n7_ n8_
        (try clear hb)
        (try clear hb2)
        (try clear hk)
        (try clear hi)
        (try clear ho0)
        obtain ⟨Ao69, co69, eo69⟩ := Kd.R_slice HO767.out
        (first | subst eo69 | (injection eo69 with f1_ f2_ f3_; have f4_ := f1_.symm; have f5_ := f3_.symm; clear f1_ f2_ f3_; subst f4_; subst f5_))
        refine hK.out _ _ ⟨(blk_cell BK758.out 0).trans rfl, (blk_cell BK745.out 0).trans rfl⟩ (fun hHeld => ?_)
        clear hK K
        refine norm_ (a' := ?_) ?_ ?_
        rotate_left
        ·
         show Act.put _ (some 57) _ = _
         simp only [Act.put, List.setIfInBounds_toArray, List.set_cons_zero, List.set_cons_succ, i64_w, i32_w]
         rfl
        refine one_ (i := 3) (N := some 58) #[true, true, true, true, false] rfl rfl (by kernel_rfl) (by decide) (fun K hK => ?_)
        refine goes_ Try.func17 (by kernel_rfl) rfl #[.agg #[.slice Ao32 t755.length co32], .agg #[.slice Ao69 t765.length co69]] (by rfl) rfl rfl (by (try simp only [List.map_toArray, List.map_cons, List.map_nil]); first | done | rfl | (simp only [List.length_drop, List.length_take]; rfl)) ?_
        with_reducible refine (laws_eqTreap.calls kj16 _ _ t755 _ _ t765 true _ ?side1 ?side2 ?side3 ?side4 A63.out).mono ?_
        (case side1 => repeat (first | exact (Kd.R_reads' HO_759000.out).2.2 | (with_reducible refine Kd.C_alloc ?_ _) | (with_reducible refine Kd.C_drewN ?_ _) | (with_reducible refine Kd.C_drew ?_)))
        (case side2 => exact (Kd.R_reads' HO_759000.out).2.1)
        (case side3 => repeat (first | exact (Kd.R_reads' HO767.out).2.2 | (with_reducible refine Kd.C_alloc ?_ _) | (with_reducible refine Kd.C_drewN ?_ _) | (with_reducible refine Kd.C_drew ?_)))
        (case side4 => exact (Kd.R_reads' HO767.out).2.1)
        rintro e w70 ⟨rfl, hb⟩
        refine ⟨_, rfl, ?_⟩
        have n0_ := Aside0.mk (Kd.R_below (by (with_reducible repeat (first | apply Kd.R_alloc | apply Kd.R_drewN | apply Kd.R_drew)); exact HO_755000.out) hb)
        have n1_ := Aside0.mk (Kd.R_below (by (with_reducible repeat (first | apply Kd.R_alloc | apply Kd.R_drewN | apply Kd.R_drew)); exact HO_759000.out) hb)
        have n2_ := Aside0.mk (Kd.R_below (by (with_reducible repeat (first | apply Kd.R_alloc | apply Kd.R_drewN | apply Kd.R_drew)); exact HO_764000.out) hb)
        have n3_ := Aside0.mk (Kd.R_below (by (with_reducible repeat (first | apply Kd.R_alloc | apply Kd.R_drewN | apply Kd.R_drew)); exact HO767.out) hb)
        have n4_ := Aside0.mk (blk_below (g := gb745) (o := .cells #[.slice A0_0 l0_0.length c0_0] 24 (0, 0)) (by (with_reducible repeat (first | refine blk_drewN ?_ _ | refine blk_drew ?_ | refine blk_alloc ?_ _)); exact BK745.out) hb)
        have n5_ := Aside0.mk (blk_below (g := gb754) (o := .cells #[.slice Ao26 t750.length co26] 29 (0, 0)) (by (with_reducible repeat (first | refine blk_drewN ?_ _ | refine blk_drew ?_ | refine blk_alloc ?_ _)); exact BK754.out) hb)
        have n6_ := Aside0.mk (blk_below (g := gb758) (o := .cells #[.slice Ao32 t755.length co32] 29 (0, 0)) (by (with_reducible repeat (first | refine blk_drewN ?_ _ | refine blk_drew ?_ | refine blk_alloc ?_ _)); exact BK758.out) hb)
        have n7_ := Aside0.mk (blk_below (g := gb763) (o := .cells #[.slice Ao38 t759.length co38] 29 (0, 0)) (by (with_reducible repeat (first | refine blk_drewN ?_ _ | refine blk_drew ?_ | refine blk_alloc ?_ _)); exact BK763.out) hb)
        have n8_ := Aside0.mk (below_step (by repeat (first | (with_reducible first | exact HB.out | apply below_alloc | apply pw_below_drewN | apply below_drew1 | refine below_set ?_ GE745.out | refine below_set ?_ GE754.out | refine below_set ?_ GE758.out | refine below_set ?_ GE763.out) | exact HB.out)) hb)
        clear HO_755000
        clear HO_759000
        clear HO_764000
        clear HO767
        clear BK745
        clear BK754
        clear BK758
        clear BK763
        clear HB
        have HO_755000 := n0_
        have HO_759000 := n1_
        have HO_764000 := n2_
        have HO767 := n3_
        have BK745 := n4_
        have BK754 := n5_
        have BK758 := n6_
        have BK763 := n7_
        have HB := n8_
        clear n0_ n1_ n2_ n3_ n4_ n5_ n6_ n7_ n8_
        (try clear hb)
        (try clear hb2)
        (try clear hk)
        (try clear hi)
        refine hK.out _ _ ⟨(blk_cell BK758.out 0).trans rfl, (blk_cell BK745.out 0).trans rfl⟩ (fun hHeld => ?_)
        clear hK K
        refine norm_ (a' := ?_) ?_ ?_
        rotate_left
        ·
         show Act.put _ (some 58) _ = _
         simp only [Act.put, List.setIfInBounds_toArray, List.set_cons_zero, List.set_cons_succ, i64_w, i32_w]
         rfl
        refine pure_ (i := 4) (N := some 59) (v := ?_) (a' := ?_) #[true, true, true, true, true] rfl rfl (by kernel_rfl) (fun _ _ _ h => h) (Or.inl ⟨by rfl, ?_⟩) ?_ ?_
        rotate_left
        ·
         intro w'
         go_simp
         with_reducible rfl
        rotate_left
        ·
         simp only [Act.put, List.setIfInBounds_toArray, List.set_cons_zero, List.set_cons_succ, i64_w, i32_w]
         rfl
        refine done_ (by kernel_rfl) ?_
        have hnb71 := NB758_745.out
        have hnc71 := NB745_758.out
        have hnb72 := NB758_754.out
        have hnc72 := NB754_758.out
        have hnb73 := NB758_763.out
        have hnc73 := NB763_758.out
        have hcz74_0 : w70.cell? ⟨gb758, 0, none⟩ = some (.slice Ao32 t755.length co32) := (blk_cell BK758.out 0).trans rfl
        have hfz74_0 := blk_frozen BK758.out 0
        go_upto_region 18 with (first | ((with_reducible refine gate_callee (f := 25) rfl ?_); refine goesL_ (some 62) rfl rfl Try.func25 (by kernel_rfl) rfl #[.agg #[.slice Ao32 t755.length co32], .int .i64 1] rfl (by (try simp only [List.map_toArray, List.map_cons, List.map_nil]); first | done | rfl | (simp only [List.length_drop, List.length_take]; rfl)) ?_; (with_reducible refine (laws_markTreap.calls kj16 (fun k_ => some k_ = (.slice Ao32 t755.length co32 : Value).ownBlock) (.slice Ao32 t755.length co32) t755 1 t769 t770 w _ ?side1 ?side2 A65.out).mono ?_); (case side1 => repeat (first | (with_reducible first | exact HB.out | apply below_alloc | apply pw_below_drewN | apply below_drew1 | refine below_set ?_ GE745.out | refine below_set ?_ GE754.out | refine below_set ?_ GE758.out | refine below_set ?_ GE763.out) | exact HB.out)); (case side2 => exact Kd.R_tight rfl HO_759000.out); rintro e w75 ⟨rfl, hy0, hb, hkp⟩; refine ⟨_, rfl, ?_⟩; have n0_ := Aside0.mk (Kd.R_mono (ok' := fun k_ => some k_ ≠ (.slice Ao32 t755.length co32 : Value).ownBlock ∧ some k_ ≠ (.slice Ao38 t759.length co38 : Value).ownBlock ∧ some k_ ≠ (.slice Ao69 t765.length co69 : Value).ownBlock) (Kd.R_keptB (HO_755000.out) hkp (fun k_ hk_ hs_ => (hk_.1.1) hs_)) (fun k_ hk_ => ⟨hk_.1.1.1, hk_.1.1.2, hk_.1.2⟩)); have n1_ := Aside0.mk (Kd.R_reok rfl hy0 (fun k_ e_ => HO_759000.out.1 k_ e_)); have n2_ := Aside0.mk (Kd.R_mono (ok' := fun k_ => some k_ ≠ (.slice Ao26 t750.length co26 : Value).ownBlock ∧ some k_ ≠ (.slice Ao32 t755.length co32 : Value).ownBlock ∧ some k_ ≠ (.slice Ao69 t765.length co69 : Value).ownBlock) (Kd.R_keptB (HO_764000.out) hkp (fun k_ hk_ hs_ => (hk_.1.2) hs_)) (fun k_ hk_ => ⟨hk_.1.1.1, hk_.1.1.2, hk_.1.2⟩)); have n3_ := Aside0.mk (blk_kept (by (with_reducible repeat (first | refine blk_drewN ?_ _ | refine blk_drew ?_ | refine blk_alloc ?_ _)); exact BK745.out) hkp (fun hs_ => (fun e_ => (Kd.R_ne HO_759000.out BK745.out (by decide)) e_) hs_)); have n4_ := Aside0.mk (blk_kept (by (with_reducible repeat (first | refine blk_drewN ?_ _ | refine blk_drew ?_ | refine blk_alloc ?_ _)); exact BK754.out) hkp (fun hs_ => (fun e_ => (Kd.R_ne HO_759000.out BK754.out (by decide)) e_) hs_)); have n5_ := Aside0.mk (blk_kept (by (with_reducible repeat (first | refine blk_drewN ?_ _ | refine blk_drew ?_ | refine blk_alloc ?_ _)); exact BK758.out) hkp (fun hs_ => (fun e_ => (Kd.R_ne HO_759000.out BK758.out (by decide)) e_) hs_)); have n6_ := Aside0.mk (blk_kept (by (with_reducible repeat (first | refine blk_drewN ?_ _ | refine blk_drew ?_ | refine blk_alloc ?_ _)); exact BK763.out) hkp (fun hs_ => (fun e_ => (Kd.R_ne HO_759000.out BK763.out (by decide)) e_) hs_)); have n7_ := Aside0.mk (Kd.R_mono (ok' := fun k_ => some k_ ≠ (.slice Ao26 t750.length co26 : Value).ownBlock ∧ some k_ ≠ (.slice Ao32 t755.length co32 : Value).ownBlock ∧ some k_ ≠ (.slice Ao38 t759.length co38 : Value).ownBlock) (Kd.R_keptB (HO767.out) hkp (fun k_ hk_ hs_ => (hk_.1.2) hs_)) (fun k_ hk_ => ⟨hk_.1.1.1.2, hk_.1.1.2, hk_.1.2⟩)); have n8_ := Aside0.mk (hb); clear HO_755000; clear HO_759000; clear HO_764000; clear BK745; clear BK754; clear BK758; clear BK763; clear HO767; clear HB; have HO_755000 := n0_; have HO_759000 := n1_; have HO_764000 := n2_; have BK745 := n3_; have BK754 := n4_; have BK758 := n5_; have BK763 := n6_; have HO767 := n7_; have HB := n8_; clear n0_ n1_ n2_ n3_ n4_ n5_ n6_ n7_ n8_; (try clear hb); (try clear hkp); (try clear hy0)))
        (try simp only [Act.put, List.setIfInBounds_toArray, List.set_cons_zero, List.set_cons_succ])
        go_cut [75] (fun v75 wc => ∃ (kq : Nat) (x75_65 : Bool), v75 = .bool x75_65 ∧ Aside0 (laws_FnExactPutKey.j1 kq a1 a2 t753 x75_65 l0_0 t750 t759 = some r) ∧ Aside0 (kq ≤ kj16) ∧ Aside0 (Kd.R k71 71 wc w.heap.size (fun k_ => some k_ ≠ ((.slice Ao32 t755.length co32) : Value).ownBlock ∧ some k_ ≠ ((.slice Ao38 t759.length co38) : Value).ownBlock) (.slice Ao26 t750.length co26) t750) ∧ Aside0 (Kd.R k71 71 wc w.heap.size (fun k_ => some k_ ≠ ((.slice Ao26 t750.length co26) : Value).ownBlock ∧ some k_ ≠ ((.slice Ao38 t759.length co38) : Value).ownBlock) (.slice Ao32 t755.length co32) t770) ∧ Aside0 (Kd.R k71 71 wc w.heap.size (fun k_ => some k_ ≠ ((.slice Ao26 t750.length co26) : Value).ownBlock ∧ some k_ ≠ ((.slice Ao32 t755.length co32) : Value).ownBlock) (.slice Ao38 t759.length co38) t759) ∧ Aside0 (wc.heap[gb745]? = some (.cells #[(.slice A0_0 l0_0.length c0_0)] 24 (0, 0))) ∧ Aside0 (wc.heap[gb754]? = some (.cells #[(.slice Ao26 t750.length co26)] 29 (0, 0))) ∧ Aside0 (wc.heap[gb758]? = some (.cells #[(.slice Ao32 t755.length co32)] 29 (0, 0))) ∧ Aside0 (wc.heap[gb763]? = some (.cells #[(.slice Ao38 t759.length co38)] 29 (0, 0))) ∧ Aside0 (Below w.heap.size w wc))
        case first =>
         have H := HC66.out
         clear HC66
         by_cases c76 : t769 < 0
         ·
          rw [if_pos c76] at H
          have c76b0 : decide (t769 < 0) = true := decide_eq_true c76
          clear c76
          (first | rw [c76b0] | (simp only [i64_w, i32_w]; rw [c76b0]) | skip)
          have H' := Aside0.mk H
          clear H
          go_wp2
          go_meet
          case rel => exact ⟨_, (true), (by first | rfl | (simp; done) | (simp [*]; done)), H', ⟨by have := HJ16.out; first | omega | exact Nat.le_refl _⟩, ⟨by (with_reducible repeat (first | apply Kd.R_alloc | apply Kd.R_drewN | apply Kd.R_drew)); exact Kd.R_mono HO_755000.out (fun _ hk => ⟨hk.1, hk.2.1⟩)⟩, ⟨by (with_reducible repeat (first | apply Kd.R_alloc | apply Kd.R_drewN | apply Kd.R_drew)); exact Kd.R_mono HO_759000.out (fun _ hk => ⟨hk.1.1, hk.1.2⟩)⟩, ⟨by (with_reducible repeat (first | apply Kd.R_alloc | apply Kd.R_drewN | apply Kd.R_drew)); exact Kd.R_mono HO_764000.out (fun _ hk => ⟨hk.1, hk.2.1⟩)⟩, ⟨by (with_reducible repeat (first | refine blk_drewN ?_ _ | refine blk_drew ?_ | refine blk_alloc ?_ _)); exact BK745.out⟩, ⟨by (with_reducible repeat (first | refine blk_drewN ?_ _ | refine blk_drew ?_ | refine blk_alloc ?_ _)); exact BK754.out⟩, ⟨by (with_reducible repeat (first | refine blk_drewN ?_ _ | refine blk_drew ?_ | refine blk_alloc ?_ _)); exact BK758.out⟩, ⟨by (with_reducible repeat (first | refine blk_drewN ?_ _ | refine blk_drew ?_ | refine blk_alloc ?_ _)); exact BK763.out⟩, ⟨by repeat (first | (with_reducible first | exact HB.out | apply below_alloc | apply pw_below_drewN | apply below_drew1 | refine below_set ?_ GE745.out | refine below_set ?_ GE754.out | refine below_set ?_ GE758.out | refine below_set ?_ GE763.out) | exact HB.out)⟩⟩
         ·
          rw [if_neg c76] at H
          have c76b0 : decide (t769 < 0) = false := decide_eq_false c76
          clear c76
          (first | rw [c76b0] | (simp only [i64_w, i32_w]; rw [c76b0]) | skip)
          replace H := Option.bind_eq_some_iff.mp H
          obtain ⟨t771, A770, H⟩ := H
          replace H : (if t771 = true then (laws_FnExactPutKey.j1 kj16 a1 a2 t753 (t762 != t753) l0_0 t750 t759) else (laws_FnExactPutKey.j1 kj16 a1 a2 t753 true l0_0 t750 t759)) = some r := H
          have A77 := Aside0.mk A770
          clear A770
          by_cases c78 : t771 = true
          ·
           subst c78
           have H1 : (laws_FnExactPutKey.j1 kj16 a1 a2 t753 (t762 != t753) l0_0 t750 t759) = some r := by rw [if_pos rfl] at H; exact H
           clear H
           have H := H1
           clear H1
           have H' := Aside0.mk H
           clear H
           have hnb79 := NB763_745.out
           have hnc79 := NB745_763.out
           have hnb80 := NB763_754.out
           have hnc80 := NB754_763.out
           have hnb81 := NB763_758.out
           have hnc81 := NB758_763.out
           have hcz82_0 : w75.cell? ⟨gb763, 0, none⟩ = some (.slice Ao38 t759.length co38) := (blk_cell BK763.out 0).trans rfl
           have hfz82_0 := blk_frozen BK763.out 0
           have hnb83 := NB754_745.out
           have hnc83 := NB745_754.out
           have hnb84 := NB754_758.out
           have hnc84 := NB758_754.out
           have hcz85_0 : w75.cell? ⟨gb754, 0, none⟩ = some (.slice Ao26 t750.length co26) := (blk_cell BK754.out 0).trans rfl
           have hfz85_0 := blk_frozen BK754.out 0
           go_wp2_with (first | (go_at_call 17; (try simp only [i64_w]); (with_reducible refine (laws_eqTreap.calls kj16 _ _ t759 _ _ t750 true _ ?side1 ?side2 ?side3 ?side4 A77.out).mono ?_); (case side1 => repeat (first | exact (Kd.R_reads' HO_764000.out).2.2 | (with_reducible refine Kd.C_alloc ?_ _) | (with_reducible refine Kd.C_drewN ?_ _) | (with_reducible refine Kd.C_drew ?_))); (case side2 => exact (Kd.R_reads' HO_764000.out).2.1); (case side3 => repeat (first | exact (Kd.R_reads' HO_755000.out).2.2 | (with_reducible refine Kd.C_alloc ?_ _) | (with_reducible refine Kd.C_drewN ?_ _) | (with_reducible refine Kd.C_drew ?_))); (case side4 => exact (Kd.R_reads' HO_755000.out).2.1); rintro e w86 ⟨rfl, hb⟩; have n0_ := Aside0.mk (Kd.R_below (by (with_reducible repeat (first | apply Kd.R_alloc | apply Kd.R_drewN | apply Kd.R_drew)); exact HO_755000.out) hb); have n1_ := Aside0.mk (Kd.R_below (by (with_reducible repeat (first | apply Kd.R_alloc | apply Kd.R_drewN | apply Kd.R_drew)); exact HO_759000.out) hb); have n2_ := Aside0.mk (Kd.R_below (by (with_reducible repeat (first | apply Kd.R_alloc | apply Kd.R_drewN | apply Kd.R_drew)); exact HO_764000.out) hb); have n3_ := Aside0.mk (Kd.R_below (by (with_reducible repeat (first | apply Kd.R_alloc | apply Kd.R_drewN | apply Kd.R_drew)); exact HO767.out) hb); have n4_ := Aside0.mk (blk_below (g := gb745) (o := .cells #[.slice A0_0 l0_0.length c0_0] 24 (0, 0)) (by (with_reducible repeat (first | refine blk_drewN ?_ _ | refine blk_drew ?_ | refine blk_alloc ?_ _)); exact BK745.out) hb); have n5_ := Aside0.mk (blk_below (g := gb754) (o := .cells #[.slice Ao26 t750.length co26] 29 (0, 0)) (by (with_reducible repeat (first | refine blk_drewN ?_ _ | refine blk_drew ?_ | refine blk_alloc ?_ _)); exact BK754.out) hb); have n6_ := Aside0.mk (blk_below (g := gb758) (o := .cells #[.slice Ao32 t755.length co32] 29 (0, 0)) (by (with_reducible repeat (first | refine blk_drewN ?_ _ | refine blk_drew ?_ | refine blk_alloc ?_ _)); exact BK758.out) hb); have n7_ := Aside0.mk (blk_below (g := gb763) (o := .cells #[.slice Ao38 t759.length co38] 29 (0, 0)) (by (with_reducible repeat (first | refine blk_drewN ?_ _ | refine blk_drew ?_ | refine blk_alloc ?_ _)); exact BK763.out) hb); have n8_ := Aside0.mk (below_step (by repeat (first | (with_reducible first | exact HB.out | apply below_alloc | apply pw_below_drewN | apply below_drew1 | refine below_set ?_ GE745.out | refine below_set ?_ GE754.out | refine below_set ?_ GE758.out | refine below_set ?_ GE763.out) | exact HB.out)) hb); clear HO_755000; clear HO_759000; clear HO_764000; clear HO767; clear BK745; clear BK754; clear BK758; clear BK763; clear HB; have HO_755000 := n0_; have HO_759000 := n1_; have HO_764000 := n2_; have HO767 := n3_; have BK745 := n4_; have BK754 := n5_; have BK758 := n6_; have BK763 := n7_; have HB := n8_; clear n0_ n1_ n2_ n3_ n4_ n5_ n6_ n7_ n8_; (try clear hb); (try clear hb2); (try clear hk); (try clear hi)))
           go_meet
           case rel => exact ⟨_, ((t762 != t753)), (by first | rfl | (simp; done) | (simp [*]; done)), H', ⟨by have := HJ16.out; first | omega | exact Nat.le_refl _⟩, ⟨by (with_reducible repeat (first | apply Kd.R_alloc | apply Kd.R_drewN | apply Kd.R_drew)); exact Kd.R_mono HO_755000.out (fun _ hk => ⟨hk.1, hk.2.1⟩)⟩, ⟨by (with_reducible repeat (first | apply Kd.R_alloc | apply Kd.R_drewN | apply Kd.R_drew)); exact Kd.R_mono HO_759000.out (fun _ hk => ⟨hk.1.1, hk.1.2⟩)⟩, ⟨by (with_reducible repeat (first | apply Kd.R_alloc | apply Kd.R_drewN | apply Kd.R_drew)); exact Kd.R_mono HO_764000.out (fun _ hk => ⟨hk.1, hk.2.1⟩)⟩, ⟨by (with_reducible repeat (first | refine blk_drewN ?_ _ | refine blk_drew ?_ | refine blk_alloc ?_ _)); exact BK745.out⟩, ⟨by (with_reducible repeat (first | refine blk_drewN ?_ _ | refine blk_drew ?_ | refine blk_alloc ?_ _)); exact BK754.out⟩, ⟨by (with_reducible repeat (first | refine blk_drewN ?_ _ | refine blk_drew ?_ | refine blk_alloc ?_ _)); exact BK758.out⟩, ⟨by (with_reducible repeat (first | refine blk_drewN ?_ _ | refine blk_drew ?_ | refine blk_alloc ?_ _)); exact BK763.out⟩, ⟨by repeat (first | (with_reducible first | exact HB.out | apply below_alloc | apply pw_below_drewN | apply below_drew1 | refine below_set ?_ GE745.out | refine below_set ?_ GE754.out | refine below_set ?_ GE758.out | refine below_set ?_ GE763.out) | exact HB.out)⟩⟩
          ·
           replace c78 := Bool.eq_false_iff.mpr c78
           subst c78
           have H1 : (laws_FnExactPutKey.j1 kj16 a1 a2 t753 true l0_0 t750 t759) = some r := by rw [if_neg (show ¬ (false = true) by decide)] at H; exact H
           clear H
           have H := H1
           clear H1
           have H' := Aside0.mk H
           clear H
           have hnb87 := NB763_745.out
           have hnc87 := NB745_763.out
           have hnb88 := NB763_754.out
           have hnc88 := NB754_763.out
           have hnb89 := NB763_758.out
           have hnc89 := NB758_763.out
           have hcz90_0 : w75.cell? ⟨gb763, 0, none⟩ = some (.slice Ao38 t759.length co38) := (blk_cell BK763.out 0).trans rfl
           have hfz90_0 := blk_frozen BK763.out 0
           have hnb91 := NB754_745.out
           have hnc91 := NB745_754.out
           have hnb92 := NB754_758.out
           have hnc92 := NB758_754.out
           have hcz93_0 : w75.cell? ⟨gb754, 0, none⟩ = some (.slice Ao26 t750.length co26) := (blk_cell BK754.out 0).trans rfl
           have hfz93_0 := blk_frozen BK754.out 0
           go_wp2_with (first | (go_at_call 17; (try simp only [i64_w]); (with_reducible refine (laws_eqTreap.calls kj16 _ _ t759 _ _ t750 false _ ?side1 ?side2 ?side3 ?side4 A77.out).mono ?_); (case side1 => repeat (first | exact (Kd.R_reads' HO_764000.out).2.2 | (with_reducible refine Kd.C_alloc ?_ _) | (with_reducible refine Kd.C_drewN ?_ _) | (with_reducible refine Kd.C_drew ?_))); (case side2 => exact (Kd.R_reads' HO_764000.out).2.1); (case side3 => repeat (first | exact (Kd.R_reads' HO_755000.out).2.2 | (with_reducible refine Kd.C_alloc ?_ _) | (with_reducible refine Kd.C_drewN ?_ _) | (with_reducible refine Kd.C_drew ?_))); (case side4 => exact (Kd.R_reads' HO_755000.out).2.1); rintro e w94 ⟨rfl, hb⟩; have n0_ := Aside0.mk (Kd.R_below (by (with_reducible repeat (first | apply Kd.R_alloc | apply Kd.R_drewN | apply Kd.R_drew)); exact HO_755000.out) hb); have n1_ := Aside0.mk (Kd.R_below (by (with_reducible repeat (first | apply Kd.R_alloc | apply Kd.R_drewN | apply Kd.R_drew)); exact HO_759000.out) hb); have n2_ := Aside0.mk (Kd.R_below (by (with_reducible repeat (first | apply Kd.R_alloc | apply Kd.R_drewN | apply Kd.R_drew)); exact HO_764000.out) hb); have n3_ := Aside0.mk (Kd.R_below (by (with_reducible repeat (first | apply Kd.R_alloc | apply Kd.R_drewN | apply Kd.R_drew)); exact HO767.out) hb); have n4_ := Aside0.mk (blk_below (g := gb745) (o := .cells #[.slice A0_0 l0_0.length c0_0] 24 (0, 0)) (by (with_reducible repeat (first | refine blk_drewN ?_ _ | refine blk_drew ?_ | refine blk_alloc ?_ _)); exact BK745.out) hb); have n5_ := Aside0.mk (blk_below (g := gb754) (o := .cells #[.slice Ao26 t750.length co26] 29 (0, 0)) (by (with_reducible repeat (first | refine blk_drewN ?_ _ | refine blk_drew ?_ | refine blk_alloc ?_ _)); exact BK754.out) hb); have n6_ := Aside0.mk (blk_below (g := gb758) (o := .cells #[.slice Ao32 t755.length co32] 29 (0, 0)) (by (with_reducible repeat (first | refine blk_drewN ?_ _ | refine blk_drew ?_ | refine blk_alloc ?_ _)); exact BK758.out) hb); have n7_ := Aside0.mk (blk_below (g := gb763) (o := .cells #[.slice Ao38 t759.length co38] 29 (0, 0)) (by (with_reducible repeat (first | refine blk_drewN ?_ _ | refine blk_drew ?_ | refine blk_alloc ?_ _)); exact BK763.out) hb); have n8_ := Aside0.mk (below_step (by repeat (first | (with_reducible first | exact HB.out | apply below_alloc | apply pw_below_drewN | apply below_drew1 | refine below_set ?_ GE745.out | refine below_set ?_ GE754.out | refine below_set ?_ GE758.out | refine below_set ?_ GE763.out) | exact HB.out)) hb); clear HO_755000; clear HO_759000; clear HO_764000; clear HO767; clear BK745; clear BK754; clear BK758; clear BK763; clear HB; have HO_755000 := n0_; have HO_759000 := n1_; have HO_764000 := n2_; have HO767 := n3_; have BK745 := n4_; have BK754 := n5_; have BK758 := n6_; have BK763 := n7_; have HB := n8_; clear n0_ n1_ n2_ n3_ n4_ n5_ n6_ n7_ n8_; (try clear hb); (try clear hb2); (try clear hk); (try clear hi)))
           go_meet
           case rel => exact ⟨_, (true), (by first | rfl | (simp; done) | (simp [*]; done)), H', ⟨by have := HJ16.out; first | omega | exact Nat.le_refl _⟩, ⟨by (with_reducible repeat (first | apply Kd.R_alloc | apply Kd.R_drewN | apply Kd.R_drew)); exact Kd.R_mono HO_755000.out (fun _ hk => ⟨hk.1, hk.2.1⟩)⟩, ⟨by (with_reducible repeat (first | apply Kd.R_alloc | apply Kd.R_drewN | apply Kd.R_drew)); exact Kd.R_mono HO_759000.out (fun _ hk => ⟨hk.1.1, hk.1.2⟩)⟩, ⟨by (with_reducible repeat (first | apply Kd.R_alloc | apply Kd.R_drewN | apply Kd.R_drew)); exact Kd.R_mono HO_764000.out (fun _ hk => ⟨hk.1, hk.2.1⟩)⟩, ⟨by (with_reducible repeat (first | refine blk_drewN ?_ _ | refine blk_drew ?_ | refine blk_alloc ?_ _)); exact BK745.out⟩, ⟨by (with_reducible repeat (first | refine blk_drewN ?_ _ | refine blk_drew ?_ | refine blk_alloc ?_ _)); exact BK754.out⟩, ⟨by (with_reducible repeat (first | refine blk_drewN ?_ _ | refine blk_drew ?_ | refine blk_alloc ?_ _)); exact BK758.out⟩, ⟨by (with_reducible repeat (first | refine blk_drewN ?_ _ | refine blk_drew ?_ | refine blk_alloc ?_ _)); exact BK763.out⟩, ⟨by repeat (first | (with_reducible first | exact HB.out | apply below_alloc | apply pw_below_drewN | apply below_drew1 | refine below_set ?_ GE745.out | refine below_set ?_ GE754.out | refine below_set ?_ GE758.out | refine below_set ?_ GE763.out) | exact HB.out)⟩⟩
        case rest =>
         clear HC66
         try clear c1
         try clear c2
         try clear p2
         try clear c3
         try clear c4
         try clear c4b0
         try clear c4b1
         try clear c5
         try clear c6
         try clear c6b0
         try clear c6b1
         try clear c7
         try clear c8
         try clear c9
         try clear c9b0
         try clear c11
         try clear c13
         try clear c15
         try clear c17
         try clear c25
         try clear c27
         try clear c33
         try clear c34
         try clear c39
         try clear c40
         try clear c41
         try clear c44
         try clear c45
         try clear c46
         try clear c47
         try clear c49
         try clear c50
         try clear c53
         try clear c54
         try clear c55
         try clear c57
         try clear c58
         try clear c61
         try clear c64
         try clear c71
         try clear c72
         try clear c73
         try clear c76
         try clear c76b0
         try clear c78
         try clear c79
         try clear c80
         try clear c81
         try clear c83
         try clear c84
         try clear c87
         try clear c88
         try clear c89
         try clear c91
         try clear c92
         try clear hcz11_0
         try clear hcz19_0
         try clear hcz21_0
         try clear hcz28_0
         try clear hcz29_0
         try clear hcz35_0
         try clear hcz42_0
         try clear hcz48_0
         try clear hcz51_0
         try clear hcz56_0
         try clear hcz59_0
         try clear hcz74_0
         try clear hcz82_0
         try clear hcz85_0
         try clear hcz90_0
         try clear hcz93_0
         try clear hfz11_0
         try clear hfz19_0
         try clear hfz21_0
         try clear hfz28_0
         try clear hfz29_0
         try clear hfz35_0
         try clear hfz42_0
         try clear hfz48_0
         try clear hfz51_0
         try clear hfz56_0
         try clear hfz59_0
         try clear hfz74_0
         try clear hfz82_0
         try clear hfz85_0
         try clear hfz90_0
         try clear hfz93_0
         try clear p2
         obtain ⟨kq, x75_65, rfl, HA, HJ65, HO_755000, HO_759000, HO_764000, BK745, BK754, BK758, BK763, HB⟩ := hcut
         have hl759000_65 := (Kd.R_reads' HO_759000.out).1
         rw [hl759000_65] at HO_759000
         (try simp only [hl759000_65])
         (try simp only [hl759000_65] at BK745)
         (try simp only [hl759000_65] at BK754)
         (try simp only [hl759000_65] at BK758)
         (try simp only [hl759000_65] at BK763)
         (try simp only [hl759000_65] at HO_755000)
         (try simp only [hl759000_65] at HO_764000)
         cases kq with
         | zero => exact absurd HA.out (by simp [laws_FnExactPutKey.j1])
         | succ kj65 =>
          have H := HA.out
          clear HA
          simp only [laws_FnExactPutKey.j1] at H
          by_cases c95 : x75_65 = true
          ·
           subst c95
           have H1 : (some false) = some r := by rw [if_pos rfl] at H; exact H
           clear H
           have H := H1
           clear H1
           obtain rfl := Option.some.inj H
           go_wp2
           go_ret
           exact ⟨by first | rfl | (simp [errW_none, errW_some] <;> rfl) | (simp [*, errW_none, errW_some] <;> rfl), by repeat (first | (with_reducible first | exact HB.out | apply below_alloc | apply pw_below_drewN | apply below_drew1 | refine below_set ?_ GE745.out | refine below_set ?_ GE754.out | refine below_set ?_ GE758.out | refine below_set ?_ GE763.out) | exact HB.out)⟩
          ·
           replace c95 := Bool.eq_false_iff.mpr c95
           subst c95
           have H1 : ((laws_markTreap.f kj65 t759 1).bind fun bt772 => ((laws_heldTreap.f kj65 bt772.2 1).bind fun t774 => (if t774 < 0 then (some false) else (if t774 = bt772.1 then ((laws_toTreap.f kj65 l0_0).bind fun t775 => ((impl_PutKey.f t775 a1 a2).bind fun bt778 => ((laws_eqTreap.f kj65 bt778.1 t750).bind fun t783 => (if t783 = true then (laws_FnExactPutKey.j2 kj65 bt772.1 (bt778.2 != t753) bt772.2) else (laws_FnExactPutKey.j2 kj65 bt772.1 true bt772.2))))) else (some false))))) = some r := by rw [if_neg (show ¬ (false = true) by decide)] at H; exact H
           clear H
           have H := H1
           clear H1
           replace H := Option.bind_eq_some_iff.mp H
           obtain ⟨⟨t772, t773⟩, A960, H⟩ := H
           replace H : ((laws_heldTreap.f kj65 t773 1).bind fun t774 => (if t774 < 0 then (some false) else (if t774 = t772 then ((laws_toTreap.f kj65 l0_0).bind fun t775 => ((impl_PutKey.f t775 a1 a2).bind fun bt778 => ((laws_eqTreap.f kj65 bt778.1 t750).bind fun t783 => (if t783 = true then (laws_FnExactPutKey.j2 kj65 t772 (bt778.2 != t753) t773) else (laws_FnExactPutKey.j2 kj65 t772 true t773))))) else (some false)))) = some r := H
           have A96 := Aside0.mk A960
           clear A960
           replace H := Option.bind_eq_some_iff.mp H
           obtain ⟨t774, A970, H⟩ := H
           replace H : (if t774 < 0 then (some false) else (if t774 = t772 then ((laws_toTreap.f kj65 l0_0).bind fun t775 => ((impl_PutKey.f t775 a1 a2).bind fun bt778 => ((laws_eqTreap.f kj65 bt778.1 t750).bind fun t783 => (if t783 = true then (laws_FnExactPutKey.j2 kj65 t772 (bt778.2 != t753) t773) else (laws_FnExactPutKey.j2 kj65 t772 true t773))))) else (some false))) = some r := H
           have A97 := Aside0.mk A970
           clear A970
           by_cases c98 : t774 < 0
           ·
            rw [if_pos c98] at H
            have c98b0 : decide (t774 < 0) = true := decide_eq_true c98
            clear c98
            obtain rfl := Option.some.inj H
            have hnb99 := NB763_745.out
            have hnc99 := NB745_763.out
            have hnb100 := NB763_754.out
            have hnc100 := NB754_763.out
            have hnb101 := NB763_758.out
            have hnc101 := NB758_763.out
            have hcz102_0 : wc.cell? ⟨gb763, 0, none⟩ = some (.slice Ao38 t759.length co38) := (blk_cell BK763.out 0).trans rfl
            have hfz102_0 := blk_frozen BK763.out 0
            go_wp2_with (first | ((with_reducible refine gate_callee (f := 25) rfl ?_); refine goesL_ (some 78) rfl rfl Try.func25 (by kernel_rfl) rfl #[.agg #[.slice Ao38 t759.length co38], .int .i64 1] rfl (by (try simp only [List.map_toArray, List.map_cons, List.map_nil]); first | done | rfl | (simp only [List.length_drop, List.length_take]; rfl)) ?_; (with_reducible refine (laws_markTreap.calls kj65 (fun k_ => some k_ = (.slice Ao38 t759.length co38 : Value).ownBlock) (.slice Ao38 t759.length co38) t759 1 t772 t773 w _ ?side1 ?side2 A96.out).mono ?_); (case side1 => repeat (first | (with_reducible first | exact HB.out | apply below_alloc | apply pw_below_drewN | apply below_drew1 | refine below_set ?_ GE745.out | refine below_set ?_ GE754.out | refine below_set ?_ GE758.out | refine below_set ?_ GE763.out) | exact HB.out)); (case side2 => exact Kd.R_tight rfl HO_764000.out); rintro e w103 ⟨rfl, hy0, hb, hkp⟩; refine ⟨_, rfl, ?_⟩; have n0_ := Aside0.mk (Kd.R_mono (ok' := fun k_ => some k_ ≠ (.slice Ao32 t770.length co32 : Value).ownBlock ∧ some k_ ≠ (.slice Ao38 t759.length co38 : Value).ownBlock) (Kd.R_keptB (HO_755000.out) hkp (fun k_ hk_ hs_ => (hk_.2) hs_)) (fun k_ hk_ => ⟨hk_.1.1, hk_.1.2⟩)); have n1_ := Aside0.mk (Kd.R_mono (ok' := fun k_ => some k_ ≠ (.slice Ao26 t750.length co26 : Value).ownBlock ∧ some k_ ≠ (.slice Ao38 t759.length co38 : Value).ownBlock) (Kd.R_keptB (HO_759000.out) hkp (fun k_ hk_ hs_ => (hk_.2) hs_)) (fun k_ hk_ => ⟨hk_.1.1, hk_.1.2⟩)); have n2_ := Aside0.mk (Kd.R_reok rfl hy0 (fun k_ e_ => HO_764000.out.1 k_ e_)); have n3_ := Aside0.mk (blk_kept (by (with_reducible repeat (first | refine blk_drewN ?_ _ | refine blk_drew ?_ | refine blk_alloc ?_ _)); exact BK745.out) hkp (fun hs_ => (fun e_ => (Kd.R_ne HO_764000.out BK745.out (by decide)) e_) hs_)); have n4_ := Aside0.mk (blk_kept (by (with_reducible repeat (first | refine blk_drewN ?_ _ | refine blk_drew ?_ | refine blk_alloc ?_ _)); exact BK754.out) hkp (fun hs_ => (fun e_ => (Kd.R_ne HO_764000.out BK754.out (by decide)) e_) hs_)); have n5_ := Aside0.mk (blk_kept (by (with_reducible repeat (first | refine blk_drewN ?_ _ | refine blk_drew ?_ | refine blk_alloc ?_ _)); exact BK758.out) hkp (fun hs_ => (fun e_ => (Kd.R_ne HO_764000.out BK758.out (by decide)) e_) hs_)); have n6_ := Aside0.mk (blk_kept (by (with_reducible repeat (first | refine blk_drewN ?_ _ | refine blk_drew ?_ | refine blk_alloc ?_ _)); exact BK763.out) hkp (fun hs_ => (fun e_ => (Kd.R_ne HO_764000.out BK763.out (by decide)) e_) hs_)); have n7_ := Aside0.mk (hb); clear HO_755000; clear HO_759000; clear HO_764000; clear BK745; clear BK754; clear BK758; clear BK763; clear HB; have HO_755000 := n0_; have HO_759000 := n1_; have HO_764000 := n2_; have BK745 := n3_; have BK754 := n4_; have BK758 := n5_; have BK763 := n6_; have HB := n7_; clear n0_ n1_ n2_ n3_ n4_ n5_ n6_ n7_; (try clear hb); (try clear hkp); (try clear hy0); have hcz104_0 : w103.cell? ⟨gb763, 0, none⟩ = some (.slice Ao38 t759.length co38) := (blk_cell BK763.out 0).trans rfl; have hfz104_0 := blk_frozen BK763.out 0) | ((with_reducible refine gate_callee (f := 30) rfl ?_); refine goesL_ (some 81) rfl rfl Try.func30 (by kernel_rfl) rfl #[.agg #[.slice Ao38 t773.length co38], .int .i64 1] rfl (by (try simp only [List.map_toArray, List.map_cons, List.map_nil]); first | done | (rw [show t773.length = t759.length from (Kd.R_reads' HO_764000.out).1.symm] <;> rfl) | rfl | (simp only [List.length_drop, List.length_take]; rfl)) ?_; (with_reducible refine (laws_heldTreap.calls kj65 _ _ t773 1 t774 _ ?side1 ?side2 A97.out).mono ?_); (case side1 => repeat (first | exact (Kd.R_reads' HO_764000.out).2.2 | (with_reducible refine Kd.C_alloc ?_ _) | (with_reducible refine Kd.C_drewN ?_ _) | (with_reducible refine Kd.C_drew ?_))); (case side2 => rw [show t773.length = t759.length from (Kd.R_reads' HO_764000.out).1.symm]; exact (Kd.R_reads' HO_764000.out).2.1); rintro e w105 ⟨rfl, hb⟩; refine ⟨_, rfl, ?_⟩; have n0_ := Aside0.mk (Kd.R_below (by (with_reducible repeat (first | apply Kd.R_alloc | apply Kd.R_drewN | apply Kd.R_drew)); exact HO_755000.out) hb); have n1_ := Aside0.mk (Kd.R_below (by (with_reducible repeat (first | apply Kd.R_alloc | apply Kd.R_drewN | apply Kd.R_drew)); exact HO_759000.out) hb); have n2_ := Aside0.mk (Kd.R_below (by (with_reducible repeat (first | apply Kd.R_alloc | apply Kd.R_drewN | apply Kd.R_drew)); exact HO_764000.out) hb); have n3_ := Aside0.mk (blk_below (g := gb745) (o := .cells #[.slice A0_0 l0_0.length c0_0] 24 (0, 0)) (by (with_reducible repeat (first | refine blk_drewN ?_ _ | refine blk_drew ?_ | refine blk_alloc ?_ _)); exact BK745.out) hb); have n4_ := Aside0.mk (blk_below (g := gb754) (o := .cells #[.slice Ao26 t750.length co26] 29 (0, 0)) (by (with_reducible repeat (first | refine blk_drewN ?_ _ | refine blk_drew ?_ | refine blk_alloc ?_ _)); exact BK754.out) hb); have n5_ := Aside0.mk (blk_below (g := gb758) (o := .cells #[.slice Ao32 t770.length co32] 29 (0, 0)) (by (with_reducible repeat (first | refine blk_drewN ?_ _ | refine blk_drew ?_ | refine blk_alloc ?_ _)); exact BK758.out) hb); have n6_ := Aside0.mk (blk_below (g := gb763) (o := .cells #[.slice Ao38 t759.length co38] 29 (0, 0)) (by (with_reducible repeat (first | refine blk_drewN ?_ _ | refine blk_drew ?_ | refine blk_alloc ?_ _)); exact BK763.out) hb); have n7_ := Aside0.mk (below_step (by repeat (first | (with_reducible first | exact HB.out | apply below_alloc | apply pw_below_drewN | apply below_drew1 | refine below_set ?_ GE745.out | refine below_set ?_ GE754.out | refine below_set ?_ GE758.out | refine below_set ?_ GE763.out) | exact HB.out)) hb); clear HO_755000; clear HO_759000; clear HO_764000; clear BK745; clear BK754; clear BK758; clear BK763; clear HB; have HO_755000 := n0_; have HO_759000 := n1_; have HO_764000 := n2_; have BK745 := n3_; have BK754 := n4_; have BK758 := n5_; have BK763 := n6_; have HB := n7_; clear n0_ n1_ n2_ n3_ n4_ n5_ n6_ n7_; (try clear hb); (try clear hb2); (try clear hk); (try clear hi)))
            go_ret
            exact ⟨by first | rfl | (simp [errW_none, errW_some] <;> rfl) | (simp [*, errW_none, errW_some] <;> rfl), by repeat (first | (with_reducible first | exact HB.out | apply below_alloc | apply pw_below_drewN | apply below_drew1 | refine below_set ?_ GE745.out | refine below_set ?_ GE754.out | refine below_set ?_ GE758.out | refine below_set ?_ GE763.out) | exact HB.out)⟩
           ·
            rw [if_neg c98] at H
            have c98b0 : decide (t774 < 0) = false := decide_eq_false c98
            clear c98
            by_cases c106 : t774 = t772
            ·
             rw [if_pos c106] at H
             have c106b0 : (t774 == t772) = true := beq_iff_eq.mpr c106
             have c106b1 : (t774 != t772) = false := bne_eq_false_iff_eq.mpr c106
             clear c106
             replace H := Option.bind_eq_some_iff.mp H
             obtain ⟨t775, A1070, H⟩ := H
             replace H : ((impl_PutKey.f t775 a1 a2).bind fun bt778 => ((laws_eqTreap.f kj65 bt778.1 t750).bind fun t783 => (if t783 = true then (laws_FnExactPutKey.j2 kj65 t772 (bt778.2 != t753) t773) else (laws_FnExactPutKey.j2 kj65 t772 true t773)))) = some r := H
             have A107 := Aside0.mk A1070
             clear A1070
             replace H := Option.bind_eq_some_iff.mp H
             obtain ⟨⟨t778, t781⟩, A1080, H⟩ := H
             replace H : ((laws_eqTreap.f kj65 t778 t750).bind fun t783 => (if t783 = true then (laws_FnExactPutKey.j2 kj65 t772 (t781 != t753) t773) else (laws_FnExactPutKey.j2 kj65 t772 true t773))) = some r := H
             have A108 := Aside0.mk A1080
             clear A1080
             have HC109 := Aside0.mk H
             clear H
             have hnb110 := NB763_745.out
             have hnc110 := NB745_763.out
             have hnb111 := NB763_754.out
             have hnc111 := NB754_763.out
             have hnb112 := NB763_758.out
             have hnc112 := NB758_763.out
             have hcz113_0 : wc.cell? ⟨gb763, 0, none⟩ = some (.slice Ao38 t759.length co38) := (blk_cell BK763.out 0).trans rfl
             have hfz113_0 := blk_frozen BK763.out 0
             go_upto_region 29 with (first | ((with_reducible refine gate_callee (f := 25) rfl ?_); refine goesL_ (some 78) rfl rfl Try.func25 (by kernel_rfl) rfl #[.agg #[.slice Ao38 t759.length co38], .int .i64 1] rfl (by (try simp only [List.map_toArray, List.map_cons, List.map_nil]); first | done | rfl | (simp only [List.length_drop, List.length_take]; rfl)) ?_; (with_reducible refine (laws_markTreap.calls kj65 (fun k_ => some k_ = (.slice Ao38 t759.length co38 : Value).ownBlock) (.slice Ao38 t759.length co38) t759 1 t772 t773 w _ ?side1 ?side2 A96.out).mono ?_); (case side1 => repeat (first | (with_reducible first | exact HB.out | apply below_alloc | apply pw_below_drewN | apply below_drew1 | refine below_set ?_ GE745.out | refine below_set ?_ GE754.out | refine below_set ?_ GE758.out | refine below_set ?_ GE763.out) | exact HB.out)); (case side2 => exact Kd.R_tight rfl HO_764000.out); rintro e w114 ⟨rfl, hy0, hb, hkp⟩; refine ⟨_, rfl, ?_⟩; have n0_ := Aside0.mk (Kd.R_mono (ok' := fun k_ => some k_ ≠ (.slice Ao32 t770.length co32 : Value).ownBlock ∧ some k_ ≠ (.slice Ao38 t759.length co38 : Value).ownBlock) (Kd.R_keptB (HO_755000.out) hkp (fun k_ hk_ hs_ => (hk_.2) hs_)) (fun k_ hk_ => ⟨hk_.1.1, hk_.1.2⟩)); have n1_ := Aside0.mk (Kd.R_mono (ok' := fun k_ => some k_ ≠ (.slice Ao26 t750.length co26 : Value).ownBlock ∧ some k_ ≠ (.slice Ao38 t759.length co38 : Value).ownBlock) (Kd.R_keptB (HO_759000.out) hkp (fun k_ hk_ hs_ => (hk_.2) hs_)) (fun k_ hk_ => ⟨hk_.1.1, hk_.1.2⟩)); have n2_ := Aside0.mk (Kd.R_reok rfl hy0 (fun k_ e_ => HO_764000.out.1 k_ e_)); have n3_ := Aside0.mk (blk_kept (by (with_reducible repeat (first | refine blk_drewN ?_ _ | refine blk_drew ?_ | refine blk_alloc ?_ _)); exact BK745.out) hkp (fun hs_ => (fun e_ => (Kd.R_ne HO_764000.out BK745.out (by decide)) e_) hs_)); have n4_ := Aside0.mk (blk_kept (by (with_reducible repeat (first | refine blk_drewN ?_ _ | refine blk_drew ?_ | refine blk_alloc ?_ _)); exact BK754.out) hkp (fun hs_ => (fun e_ => (Kd.R_ne HO_764000.out BK754.out (by decide)) e_) hs_)); have n5_ := Aside0.mk (blk_kept (by (with_reducible repeat (first | refine blk_drewN ?_ _ | refine blk_drew ?_ | refine blk_alloc ?_ _)); exact BK758.out) hkp (fun hs_ => (fun e_ => (Kd.R_ne HO_764000.out BK758.out (by decide)) e_) hs_)); have n6_ := Aside0.mk (blk_kept (by (with_reducible repeat (first | refine blk_drewN ?_ _ | refine blk_drew ?_ | refine blk_alloc ?_ _)); exact BK763.out) hkp (fun hs_ => (fun e_ => (Kd.R_ne HO_764000.out BK763.out (by decide)) e_) hs_)); have n7_ := Aside0.mk (hb); clear HO_755000; clear HO_759000; clear HO_764000; clear BK745; clear BK754; clear BK758; clear BK763; clear HB; have HO_755000 := n0_; have HO_759000 := n1_; have HO_764000 := n2_; have BK745 := n3_; have BK754 := n4_; have BK758 := n5_; have BK763 := n6_; have HB := n7_; clear n0_ n1_ n2_ n3_ n4_ n5_ n6_ n7_; (try clear hb); (try clear hkp); (try clear hy0); have hcz115_0 : w114.cell? ⟨gb763, 0, none⟩ = some (.slice Ao38 t759.length co38) := (blk_cell BK763.out 0).trans rfl; have hfz115_0 := blk_frozen BK763.out 0) | ((with_reducible refine gate_callee (f := 30) rfl ?_); refine goesL_ (some 81) rfl rfl Try.func30 (by kernel_rfl) rfl #[.agg #[.slice Ao38 t773.length co38], .int .i64 1] rfl (by (try simp only [List.map_toArray, List.map_cons, List.map_nil]); first | done | (rw [show t773.length = t759.length from (Kd.R_reads' HO_764000.out).1.symm] <;> rfl) | rfl | (simp only [List.length_drop, List.length_take]; rfl)) ?_; (with_reducible refine (laws_heldTreap.calls kj65 _ _ t773 1 t774 _ ?side1 ?side2 A97.out).mono ?_); (case side1 => repeat (first | exact (Kd.R_reads' HO_764000.out).2.2 | (with_reducible refine Kd.C_alloc ?_ _) | (with_reducible refine Kd.C_drewN ?_ _) | (with_reducible refine Kd.C_drew ?_))); (case side2 => rw [show t773.length = t759.length from (Kd.R_reads' HO_764000.out).1.symm]; exact (Kd.R_reads' HO_764000.out).2.1); rintro e w116 ⟨rfl, hb⟩; refine ⟨_, rfl, ?_⟩; have n0_ := Aside0.mk (Kd.R_below (by (with_reducible repeat (first | apply Kd.R_alloc | apply Kd.R_drewN | apply Kd.R_drew)); exact HO_755000.out) hb); have n1_ := Aside0.mk (Kd.R_below (by (with_reducible repeat (first | apply Kd.R_alloc | apply Kd.R_drewN | apply Kd.R_drew)); exact HO_759000.out) hb); have n2_ := Aside0.mk (Kd.R_below (by (with_reducible repeat (first | apply Kd.R_alloc | apply Kd.R_drewN | apply Kd.R_drew)); exact HO_764000.out) hb); have n3_ := Aside0.mk (blk_below (g := gb745) (o := .cells #[.slice A0_0 l0_0.length c0_0] 24 (0, 0)) (by (with_reducible repeat (first | refine blk_drewN ?_ _ | refine blk_drew ?_ | refine blk_alloc ?_ _)); exact BK745.out) hb); have n4_ := Aside0.mk (blk_below (g := gb754) (o := .cells #[.slice Ao26 t750.length co26] 29 (0, 0)) (by (with_reducible repeat (first | refine blk_drewN ?_ _ | refine blk_drew ?_ | refine blk_alloc ?_ _)); exact BK754.out) hb); have n5_ := Aside0.mk (blk_below (g := gb758) (o := .cells #[.slice Ao32 t770.length co32] 29 (0, 0)) (by (with_reducible repeat (first | refine blk_drewN ?_ _ | refine blk_drew ?_ | refine blk_alloc ?_ _)); exact BK758.out) hb); have n6_ := Aside0.mk (blk_below (g := gb763) (o := .cells #[.slice Ao38 t759.length co38] 29 (0, 0)) (by (with_reducible repeat (first | refine blk_drewN ?_ _ | refine blk_drew ?_ | refine blk_alloc ?_ _)); exact BK763.out) hb); have n7_ := Aside0.mk (below_step (by repeat (first | (with_reducible first | exact HB.out | apply below_alloc | apply pw_below_drewN | apply below_drew1 | refine below_set ?_ GE745.out | refine below_set ?_ GE754.out | refine below_set ?_ GE758.out | refine below_set ?_ GE763.out) | exact HB.out)) hb); clear HO_755000; clear HO_759000; clear HO_764000; clear BK745; clear BK754; clear BK758; clear BK763; clear HB; have HO_755000 := n0_; have HO_759000 := n1_; have HO_764000 := n2_; have BK745 := n3_; have BK754 := n4_; have BK758 := n5_; have BK763 := n6_; have HB := n7_; clear n0_ n1_ n2_ n3_ n4_ n5_ n6_ n7_; (try clear hb); (try clear hb2); (try clear hk); (try clear hi); have hnb117 := NB745_754.out; have hnc117 := NB754_745.out; have hnb118 := NB745_758.out; have hnc118 := NB758_745.out; have hcz119_0 : w116.cell? ⟨gb745, 0, none⟩ = some (.slice A0_0 l0_0.length c0_0) := (blk_cell BK745.out 0).trans rfl; have hfz119_0 := blk_frozen BK745.out 0) | ((with_reducible refine gate_callee (f := 15) rfl ?_); refine goesL_ (some 89) rfl rfl Try.func15 (by kernel_rfl) rfl #[.agg #[.slice A0_0 l0_0.length c0_0]] rfl (by (try simp only [List.map_toArray, List.map_cons, List.map_nil]); first | done | rfl | (simp only [List.length_drop, List.length_take]; rfl)) ?_; (with_reducible refine (laws_toTreap.calls kj65 _ _ l0_0 t775 _ ?side1 ?side2 A107.out).mono ?_); (case side1 => repeat (first | exact (Kd.C_below HR0_0.out HB.out) | (with_reducible refine Kd.C_alloc ?_ _) | (with_reducible refine Kd.C_drewN ?_ _) | (with_reducible refine Kd.C_drew ?_))); (case side2 => exact HC0_0.out); rintro e w120 ⟨v776, rfl, ho0, hb⟩; refine ⟨_, rfl, ?_⟩; have n0_ := Aside0.mk (Kd.R_elder' (by (with_reducible repeat (first | apply Kd.R_alloc | apply Kd.R_drewN | apply Kd.R_drew)); exact HO_755000.out) (Kd.R_base ho0) hb); have n1_ := Aside0.mk (Kd.R_elder' (by (with_reducible repeat (first | apply Kd.R_alloc | apply Kd.R_drewN | apply Kd.R_drew)); exact HO_759000.out) (Kd.R_base ho0) hb); have n2_ := Aside0.mk (Kd.R_elder' (by (with_reducible repeat (first | apply Kd.R_alloc | apply Kd.R_drewN | apply Kd.R_drew)); exact HO_764000.out) (Kd.R_base ho0) hb); have n3_ := Aside0.mk (Kd.R_lower (Kd.R_new' (Kd.R_new' (Kd.R_new' ho0 (Kd.R_lt (by (with_reducible repeat (first | apply Kd.R_alloc | apply Kd.R_drewN | apply Kd.R_drew)); exact HO_755000.out))) (Kd.R_lt (by (with_reducible repeat (first | apply Kd.R_alloc | apply Kd.R_drewN | apply Kd.R_drew)); exact HO_759000.out))) (Kd.R_lt (by (with_reducible repeat (first | apply Kd.R_alloc | apply Kd.R_drewN | apply Kd.R_drew)); exact HO_764000.out))) (below_size (by repeat (first | (with_reducible first | exact HB.out | apply below_alloc | apply pw_below_drewN | apply below_drew1 | refine below_set ?_ GE745.out | refine below_set ?_ GE754.out | refine below_set ?_ GE758.out | refine below_set ?_ GE763.out) | exact HB.out)))); have n4_ := Aside0.mk (blk_below (g := gb745) (o := .cells #[.slice A0_0 l0_0.length c0_0] 24 (0, 0)) (by (with_reducible repeat (first | refine blk_drewN ?_ _ | refine blk_drew ?_ | refine blk_alloc ?_ _)); exact BK745.out) hb); have n5_ := Aside0.mk (blk_below (g := gb754) (o := .cells #[.slice Ao26 t750.length co26] 29 (0, 0)) (by (with_reducible repeat (first | refine blk_drewN ?_ _ | refine blk_drew ?_ | refine blk_alloc ?_ _)); exact BK754.out) hb); have n6_ := Aside0.mk (blk_below (g := gb758) (o := .cells #[.slice Ao32 t770.length co32] 29 (0, 0)) (by (with_reducible repeat (first | refine blk_drewN ?_ _ | refine blk_drew ?_ | refine blk_alloc ?_ _)); exact BK758.out) hb); have n7_ := Aside0.mk (blk_below (g := gb763) (o := .cells #[.slice Ao38 t759.length co38] 29 (0, 0)) (by (with_reducible repeat (first | refine blk_drewN ?_ _ | refine blk_drew ?_ | refine blk_alloc ?_ _)); exact BK763.out) hb); have n8_ := Aside0.mk (below_step (by repeat (first | (with_reducible first | exact HB.out | apply below_alloc | apply pw_below_drewN | apply below_drew1 | refine below_set ?_ GE745.out | refine below_set ?_ GE754.out | refine below_set ?_ GE758.out | refine below_set ?_ GE763.out) | exact HB.out)) hb); clear HO_755000; clear HO_759000; clear HO_764000; clear BK745; clear BK754; clear BK758; clear BK763; clear HB; have HO_755000 := n0_; have HO_759000 := n1_; have HO_764000 := n2_; have HO777 := n3_; have BK745 := n4_; have BK754 := n5_; have BK758 := n6_; have BK763 := n7_; have HB := n8_; clear n0_ n1_ n2_ n3_ n4_ n5_ n6_ n7_ n8_; (try clear hb); (try clear hb2); (try clear hk); (try clear hi); (try clear ho0); obtain ⟨Ao121, co121, eo121⟩ := Kd.R_slice HO777.out; subst eo121) | ((with_reducible refine gate_callee (f := 41) rfl ?_); refine goesL_ (some 92) rfl rfl Try.func41 (by kernel_rfl) rfl #[.agg #[.slice Ao121 t775.length co121], .string a1, .string a2] rfl (by (try simp only [List.map_toArray, List.map_cons, List.map_nil]); first | done | rfl | (simp only [List.length_drop, List.length_take]; rfl)) ?_; (with_reducible refine (impl_PutKey.calls _ _ t775 a1 a2 t778 t781 _ ?side1 ?side2 A108.out).mono ?_); (case side1 => repeat (first | exact (Kd.R_reads' HO777.out).2.2 | (with_reducible refine Kd.C_alloc ?_ _) | (with_reducible refine Kd.C_drewN ?_ _) | (with_reducible refine Kd.C_drew ?_))); (case side2 => exact (Kd.R_reads' HO777.out).2.1); rintro e w122 ⟨v779, rfl, ho0, hb⟩; refine ⟨_, rfl, ?_⟩; have n0_ := Aside0.mk (Kd.R_elder' (by (with_reducible repeat (first | apply Kd.R_alloc | apply Kd.R_drewN | apply Kd.R_drew)); exact HO_755000.out) (Kd.R_base ho0) hb); have n1_ := Aside0.mk (Kd.R_elder' (by (with_reducible repeat (first | apply Kd.R_alloc | apply Kd.R_drewN | apply Kd.R_drew)); exact HO_759000.out) (Kd.R_base ho0) hb); have n2_ := Aside0.mk (Kd.R_elder' (by (with_reducible repeat (first | apply Kd.R_alloc | apply Kd.R_drewN | apply Kd.R_drew)); exact HO_764000.out) (Kd.R_base ho0) hb); have n3_ := Aside0.mk (Kd.R_elder' (by (with_reducible repeat (first | apply Kd.R_alloc | apply Kd.R_drewN | apply Kd.R_drew)); exact HO777.out) (Kd.R_base ho0) hb); have n4_ := Aside0.mk (Kd.R_lower (Kd.R_new' (Kd.R_new' (Kd.R_new' (Kd.R_new' ho0 (Kd.R_lt (by (with_reducible repeat (first | apply Kd.R_alloc | apply Kd.R_drewN | apply Kd.R_drew)); exact HO_755000.out))) (Kd.R_lt (by (with_reducible repeat (first | apply Kd.R_alloc | apply Kd.R_drewN | apply Kd.R_drew)); exact HO_759000.out))) (Kd.R_lt (by (with_reducible repeat (first | apply Kd.R_alloc | apply Kd.R_drewN | apply Kd.R_drew)); exact HO_764000.out))) (Kd.R_lt (by (with_reducible repeat (first | apply Kd.R_alloc | apply Kd.R_drewN | apply Kd.R_drew)); exact HO777.out))) (below_size (by repeat (first | (with_reducible first | exact HB.out | apply below_alloc | apply pw_below_drewN | apply below_drew1 | refine below_set ?_ GE745.out | refine below_set ?_ GE754.out | refine below_set ?_ GE758.out | refine below_set ?_ GE763.out) | exact HB.out)))); have n5_ := Aside0.mk (blk_below (g := gb745) (o := .cells #[.slice A0_0 l0_0.length c0_0] 24 (0, 0)) (by (with_reducible repeat (first | refine blk_drewN ?_ _ | refine blk_drew ?_ | refine blk_alloc ?_ _)); exact BK745.out) hb); have n6_ := Aside0.mk (blk_below (g := gb754) (o := .cells #[.slice Ao26 t750.length co26] 29 (0, 0)) (by (with_reducible repeat (first | refine blk_drewN ?_ _ | refine blk_drew ?_ | refine blk_alloc ?_ _)); exact BK754.out) hb); have n7_ := Aside0.mk (blk_below (g := gb758) (o := .cells #[.slice Ao32 t770.length co32] 29 (0, 0)) (by (with_reducible repeat (first | refine blk_drewN ?_ _ | refine blk_drew ?_ | refine blk_alloc ?_ _)); exact BK758.out) hb); have n8_ := Aside0.mk (blk_below (g := gb763) (o := .cells #[.slice Ao38 t759.length co38] 29 (0, 0)) (by (with_reducible repeat (first | refine blk_drewN ?_ _ | refine blk_drew ?_ | refine blk_alloc ?_ _)); exact BK763.out) hb); have n9_ := Aside0.mk (below_step (by repeat (first | (with_reducible first | exact HB.out | apply below_alloc | apply pw_below_drewN | apply below_drew1 | refine below_set ?_ GE745.out | refine below_set ?_ GE754.out | refine below_set ?_ GE758.out | refine below_set ?_ GE763.out) | exact HB.out)) hb); clear HO_755000; clear HO_759000; clear HO_764000; clear HO777; clear BK745; clear BK754; clear BK758; clear BK763; clear HB; have HO_755000 := n0_; have HO_759000 := n1_; have HO_764000 := n2_; have HO777 := n3_; have HO780 := n4_; have BK745 := n5_; have BK754 := n6_; have BK758 := n7_; have BK763 := n8_; have HB := n9_; clear n0_ n1_ n2_ n3_ n4_ n5_ n6_ n7_ n8_ n9_; (try clear hb); (try clear hb2); (try clear hk); (try clear hi); (try clear ho0)) | ((with_reducible refine gate_dst (N := 16) rfl ?_); refine box_event ?hg (N := 16) ?hd (cs := #[.slice none 0 0]) (t := 29) ?hr ?_; (case hd => rfl); (case hg => rfl); (case hr => first | (go_simp; done) | (go_simp; rfl)); intro gb782 hg w123 hbox hb; have n0_ := Aside0.mk (Kd.R_below (by (with_reducible repeat (first | apply Kd.R_alloc | apply Kd.R_drewN | apply Kd.R_drew)); exact HO_755000.out) hb); have n1_ := Aside0.mk (Kd.R_below (by (with_reducible repeat (first | apply Kd.R_alloc | apply Kd.R_drewN | apply Kd.R_drew)); exact HO_759000.out) hb); have n2_ := Aside0.mk (Kd.R_below (by (with_reducible repeat (first | apply Kd.R_alloc | apply Kd.R_drewN | apply Kd.R_drew)); exact HO_764000.out) hb); have n3_ := Aside0.mk (Kd.R_below (by (with_reducible repeat (first | apply Kd.R_alloc | apply Kd.R_drewN | apply Kd.R_drew)); exact HO777.out) hb); have n4_ := Aside0.mk (Kd.R_below (by (with_reducible repeat (first | apply Kd.R_alloc | apply Kd.R_drewN | apply Kd.R_drew)); exact HO780.out) hb); have n5_ := Aside0.mk (blk_below (g := gb745) (o := .cells #[.slice A0_0 l0_0.length c0_0] 24 (0, 0)) (by (with_reducible repeat (first | refine blk_drewN ?_ _ | refine blk_drew ?_ | refine blk_alloc ?_ _)); exact BK745.out) hb); have n6_ := Aside0.mk (blk_below (g := gb754) (o := .cells #[.slice Ao26 t750.length co26] 29 (0, 0)) (by (with_reducible repeat (first | refine blk_drewN ?_ _ | refine blk_drew ?_ | refine blk_alloc ?_ _)); exact BK754.out) hb); have n7_ := Aside0.mk (blk_below (g := gb758) (o := .cells #[.slice Ao32 t770.length co32] 29 (0, 0)) (by (with_reducible repeat (first | refine blk_drewN ?_ _ | refine blk_drew ?_ | refine blk_alloc ?_ _)); exact BK758.out) hb); have n8_ := Aside0.mk (blk_below (g := gb763) (o := .cells #[.slice Ao38 t759.length co38] 29 (0, 0)) (by (with_reducible repeat (first | refine blk_drewN ?_ _ | refine blk_drew ?_ | refine blk_alloc ?_ _)); exact BK763.out) hb); have n9_ := Aside0.mk (below_step (by repeat (first | (with_reducible first | exact HB.out | apply below_alloc | apply pw_below_drewN | apply below_drew1 | refine below_set ?_ GE745.out | refine below_set ?_ GE754.out | refine below_set ?_ GE758.out | refine below_set ?_ GE763.out) | exact HB.out)) hb); have n10_ := Aside0.mk (hbox); have n11_ := Aside0.mk ((by rw [hg]; exact (below_size (by repeat (first | (with_reducible first | exact HB.out | apply below_alloc | apply pw_below_drewN | apply below_drew1 | refine below_set ?_ GE745.out | refine below_set ?_ GE754.out | refine below_set ?_ GE758.out | refine below_set ?_ GE763.out) | exact HB.out))) : w.heap.size ≤ gb782)); have n12_ := Aside0.mk ((by rw [hg]; exact (below_size (by repeat (first | (with_reducible first | exact HB.out | apply below_alloc | apply pw_below_drewN | apply below_drew1 | refine below_set ?_ GE745.out | refine below_set ?_ GE754.out | refine below_set ?_ GE758.out | refine below_set ?_ GE763.out) | exact HB.out))) : w.heap.size ≤ gb782)); have n13_ := Aside0.mk ((by rw [hg]; exact Nat.ne_of_lt (blk_lt (g := gb745) (o := .cells #[.slice A0_0 l0_0.length c0_0] 24 (0, 0)) (by (with_reducible repeat (first | refine blk_drewN ?_ _ | refine blk_drew ?_ | refine blk_alloc ?_ _)); exact BK745.out)) : gb745 ≠ gb782)); have n14_ := Aside0.mk ((by rw [hg]; exact Nat.ne_of_gt (blk_lt (g := gb745) (o := .cells #[.slice A0_0 l0_0.length c0_0] 24 (0, 0)) (by (with_reducible repeat (first | refine blk_drewN ?_ _ | refine blk_drew ?_ | refine blk_alloc ?_ _)); exact BK745.out)) : gb782 ≠ gb745)); have n15_ := Aside0.mk ((by rw [hg]; exact Nat.ne_of_lt (blk_lt (g := gb754) (o := .cells #[.slice Ao26 t750.length co26] 29 (0, 0)) (by (with_reducible repeat (first | refine blk_drewN ?_ _ | refine blk_drew ?_ | refine blk_alloc ?_ _)); exact BK754.out)) : gb754 ≠ gb782)); have n16_ := Aside0.mk ((by rw [hg]; exact Nat.ne_of_gt (blk_lt (g := gb754) (o := .cells #[.slice Ao26 t750.length co26] 29 (0, 0)) (by (with_reducible repeat (first | refine blk_drewN ?_ _ | refine blk_drew ?_ | refine blk_alloc ?_ _)); exact BK754.out)) : gb782 ≠ gb754)); have n17_ := Aside0.mk ((by rw [hg]; exact Nat.ne_of_lt (blk_lt (g := gb758) (o := .cells #[.slice Ao32 t770.length co32] 29 (0, 0)) (by (with_reducible repeat (first | refine blk_drewN ?_ _ | refine blk_drew ?_ | refine blk_alloc ?_ _)); exact BK758.out)) : gb758 ≠ gb782)); have n18_ := Aside0.mk ((by rw [hg]; exact Nat.ne_of_gt (blk_lt (g := gb758) (o := .cells #[.slice Ao32 t770.length co32] 29 (0, 0)) (by (with_reducible repeat (first | refine blk_drewN ?_ _ | refine blk_drew ?_ | refine blk_alloc ?_ _)); exact BK758.out)) : gb782 ≠ gb758)); have n19_ := Aside0.mk ((by rw [hg]; exact Nat.ne_of_lt (blk_lt (g := gb763) (o := .cells #[.slice Ao38 t759.length co38] 29 (0, 0)) (by (with_reducible repeat (first | refine blk_drewN ?_ _ | refine blk_drew ?_ | refine blk_alloc ?_ _)); exact BK763.out)) : gb763 ≠ gb782)); have n20_ := Aside0.mk ((by rw [hg]; exact Nat.ne_of_gt (blk_lt (g := gb763) (o := .cells #[.slice Ao38 t759.length co38] 29 (0, 0)) (by (with_reducible repeat (first | refine blk_drewN ?_ _ | refine blk_drew ?_ | refine blk_alloc ?_ _)); exact BK763.out)) : gb782 ≠ gb763)); clear HO_755000; clear HO_759000; clear HO_764000; clear HO777; clear HO780; clear BK745; clear BK754; clear BK758; clear BK763; clear HB; have HO_755000 := n0_; have HO_759000 := n1_; have HO_764000 := n2_; have HO777 := n3_; have HO780 := n4_; have BK745 := n5_; have BK754 := n6_; have BK758 := n7_; have BK763 := n8_; have HB := n9_; have BK782 := n10_; have GW782 := n11_; have GE782 := n12_; have NB745_782 := n13_; have NB782_745 := n14_; have NB754_782 := n15_; have NB782_754 := n16_; have NB758_782 := n17_; have NB782_758 := n18_; have NB763_782 := n19_; have NB782_763 := n20_; clear n0_ n1_ n2_ n3_ n4_ n5_ n6_ n7_ n8_ n9_ n10_ n11_ n12_ n13_ n14_ n15_ n16_ n17_ n18_ n19_ n20_; clear hb hbox hg; obtain ⟨Ao124, co124, eo124⟩ := Kd.R_slice HO780.out; subst eo124; have hnb125 := NB782_745.out; have hnc125 := NB745_782.out; have hnb126 := NB782_754.out; have hnc126 := NB754_782.out; have hnb127 := NB782_758.out; have hnc127 := NB758_782.out; have hnb128 := NB782_763.out; have hnc128 := NB763_782.out; have hcz129_0 : w123.cell? ⟨gb782, 0, none⟩ = some (.slice none 0 0) := (blk_cell BK782.out 0).trans rfl; have hfz129_0 := blk_frozen BK782.out 0))
             (try simp only [Act.put, List.setIfInBounds_toArray, List.set_cons_zero, List.set_cons_succ])
             go_cut [103] (fun v103 wc => ∃ (kq : Nat) (x103_108 : Bool), v103 = .bool x103_108 ∧ Aside0 (laws_FnExactPutKey.j2 kq t772 x103_108 t773 = some r) ∧ Aside0 (kq ≤ kj65) ∧ Aside0 (Kd.R k71 71 wc w.heap.size (fun k_ => some k_ ≠ ((.slice Ao32 t770.length co32) : Value).ownBlock ∧ some k_ ≠ ((.slice Ao38 t759.length co38) : Value).ownBlock ∧ some k_ ≠ ((.slice Ao124 t778.length co124) : Value).ownBlock) (.slice Ao26 t750.length co26) t750) ∧ Aside0 (Kd.R k71 71 wc w.heap.size (fun k_ => some k_ ≠ ((.slice Ao26 t750.length co26) : Value).ownBlock ∧ some k_ ≠ ((.slice Ao38 t759.length co38) : Value).ownBlock ∧ some k_ ≠ ((.slice Ao124 t778.length co124) : Value).ownBlock) (.slice Ao32 t770.length co32) t770) ∧ Aside0 (Kd.R k71 71 wc w.heap.size (fun k_ => some k_ ≠ ((.slice Ao26 t750.length co26) : Value).ownBlock ∧ some k_ ≠ ((.slice Ao32 t770.length co32) : Value).ownBlock ∧ some k_ ≠ ((.slice Ao124 t778.length co124) : Value).ownBlock) (.slice Ao38 t759.length co38) t773) ∧ Aside0 (Kd.R k71 71 wc w.heap.size (fun k_ => some k_ ≠ ((.slice Ao26 t750.length co26) : Value).ownBlock ∧ some k_ ≠ ((.slice Ao32 t770.length co32) : Value).ownBlock ∧ some k_ ≠ ((.slice Ao38 t759.length co38) : Value).ownBlock) (.slice Ao124 t778.length co124) t778) ∧ Aside0 (wc.heap[gb745]? = some (.cells #[(.slice A0_0 l0_0.length c0_0)] 24 (0, 0))) ∧ Aside0 (wc.heap[gb754]? = some (.cells #[(.slice Ao26 t750.length co26)] 29 (0, 0))) ∧ Aside0 (wc.heap[gb758]? = some (.cells #[(.slice Ao32 t770.length co32)] 29 (0, 0))) ∧ Aside0 (wc.heap[gb763]? = some (.cells #[(.slice Ao38 t759.length co38)] 29 (0, 0))) ∧ Aside0 (wc.heap[gb782]? = some (.cells #[(.slice Ao124 t778.length co124)] 29 (0, 0))) ∧ Aside0 (Below w.heap.size w wc))
             case first =>
              have H := HC109.out
              clear HC109
              replace H := Option.bind_eq_some_iff.mp H
              obtain ⟨t783, A1300, H⟩ := H
              replace H : (if t783 = true then (laws_FnExactPutKey.j2 kj65 t772 (t781 != t753) t773) else (laws_FnExactPutKey.j2 kj65 t772 true t773)) = some r := H
              have A130 := Aside0.mk A1300
              clear A1300
              by_cases c131 : t783 = true
              ·
               subst c131
               have H1 : (laws_FnExactPutKey.j2 kj65 t772 (t781 != t753) t773) = some r := by rw [if_pos rfl] at H; exact H
               clear H
               have H := H1
               clear H1
               have H' := Aside0.mk H
               clear H
               have hnb132 := NB782_745.out
               have hnc132 := NB745_782.out
               have hnb133 := NB782_754.out
               have hnc133 := NB754_782.out
               have hnb134 := NB782_758.out
               have hnc134 := NB758_782.out
               have hnb135 := NB782_763.out
               have hnc135 := NB763_782.out
               have hcz136_0 : w123.cell? ⟨gb782, 0, none⟩ = some (.slice none 0 0) := (blk_cell BK782.out 0).trans rfl
               have hfz136_0 := blk_frozen BK782.out 0
               have hnb137 := NB754_745.out
               have hnc137 := NB745_754.out
               have hnb138 := NB754_758.out
               have hnc138 := NB758_754.out
               have hnb139 := NB754_763.out
               have hnc139 := NB763_754.out
               have hcz140_0 : w123.cell? ⟨gb754, 0, none⟩ = some (.slice Ao26 t750.length co26) := (blk_cell BK754.out 0).trans rfl
               have hfz140_0 := blk_frozen BK754.out 0
               go_wp2_with (first | ((with_reducible refine gate_callee (f := 17) rfl ?_); refine goesL_ (some 97) rfl rfl Try.func17 (by kernel_rfl) rfl #[.agg #[.slice Ao124 t778.length co124], .agg #[.slice Ao26 t750.length co26]] rfl (by (try simp only [List.map_toArray, List.map_cons, List.map_nil]); first | done | rfl | (simp only [List.length_drop, List.length_take]; rfl)) ?_; (with_reducible refine (laws_eqTreap.calls kj65 _ _ t778 _ _ t750 true _ ?side1 ?side2 ?side3 ?side4 A130.out).mono ?_); (case side1 => refine (Kd.R_reads' (e := 71) (base := w.heap.size) (ok := fun k_ => ((((True ∧ some k_ ≠ (.slice Ao26 t750.length co26 : Value).ownBlock) ∧ some k_ ≠ (.slice Ao32 t770.length co32 : Value).ownBlock) ∧ some k_ ≠ (.slice Ao38 t759.length co38 : Value).ownBlock) ∧ some k_ ≠ (.slice Ao121 t775.length co121 : Value).ownBlock)) (n := t778.length) (c := co124) ?_).2.2; exact (by (with_reducible repeat (first | apply Kd.R_alloc | apply Kd.R_drewN | apply Kd.R_drew)); exact (Kd.R_mono (Kd.R_far (p := ⟨gb782, 0, none⟩) (Kd.R_types HO780.out BK782.out (by decide)) (fun _ hk => hk.2) (.slice Ao124 t778.length co124)) (fun _ h_ => h_.1)))); (case side2 => exact (Kd.R_reads' HO780.out).2.1); (case side3 => refine (Kd.R_reads' (e := 71) (base := w.heap.size) (ok := fun k_ => (((some k_ ≠ (.slice Ao32 t770.length co32 : Value).ownBlock ∧ some k_ ≠ (.slice Ao38 t759.length co38 : Value).ownBlock) ∧ some k_ ≠ (.slice Ao121 t775.length co121 : Value).ownBlock) ∧ some k_ ≠ (.slice Ao124 t778.length co124 : Value).ownBlock)) (n := t750.length) (c := co26) ?_).2.2; exact (by (with_reducible repeat (first | apply Kd.R_alloc | apply Kd.R_drewN | apply Kd.R_drew)); exact (Kd.R_mono (Kd.R_far (p := ⟨gb782, 0, none⟩) (Kd.R_types HO_755000.out BK782.out (by decide)) (fun _ hk => hk.2) (.slice Ao124 t778.length co124)) (fun _ h_ => h_.1)))); (case side4 => exact (Kd.R_reads' HO_755000.out).2.1); rintro e w141 ⟨rfl, hb⟩; refine ⟨_, rfl, ?_⟩; have n0_ := Aside0.mk (Kd.R_below (by (with_reducible repeat (first | apply Kd.R_alloc | apply Kd.R_drewN | apply Kd.R_drew)); exact (Kd.R_mono (Kd.R_far (p := ⟨gb782, 0, none⟩) (Kd.R_types HO_755000.out BK782.out (by decide)) (fun _ hk => hk.2) (.slice Ao124 t778.length co124)) (fun _ h_ => h_.1))) hb); have n1_ := Aside0.mk (Kd.R_below (by (with_reducible repeat (first | apply Kd.R_alloc | apply Kd.R_drewN | apply Kd.R_drew)); exact (Kd.R_mono (Kd.R_far (p := ⟨gb782, 0, none⟩) (Kd.R_types HO_759000.out BK782.out (by decide)) (fun _ hk => hk.2) (.slice Ao124 t778.length co124)) (fun _ h_ => h_.1))) hb); have n2_ := Aside0.mk (Kd.R_below (by (with_reducible repeat (first | apply Kd.R_alloc | apply Kd.R_drewN | apply Kd.R_drew)); exact (Kd.R_mono (Kd.R_far (p := ⟨gb782, 0, none⟩) (Kd.R_types HO_764000.out BK782.out (by decide)) (fun _ hk => hk.2) (.slice Ao124 t778.length co124)) (fun _ h_ => h_.1))) hb); have n3_ := Aside0.mk (Kd.R_below (by (with_reducible repeat (first | apply Kd.R_alloc | apply Kd.R_drewN | apply Kd.R_drew)); exact (Kd.R_mono (Kd.R_far (p := ⟨gb782, 0, none⟩) (Kd.R_types HO777.out BK782.out (by decide)) (fun _ hk => hk.2) (.slice Ao124 t778.length co124)) (fun _ h_ => h_.1))) hb); have n4_ := Aside0.mk (Kd.R_below (by (with_reducible repeat (first | apply Kd.R_alloc | apply Kd.R_drewN | apply Kd.R_drew)); exact (Kd.R_mono (Kd.R_far (p := ⟨gb782, 0, none⟩) (Kd.R_types HO780.out BK782.out (by decide)) (fun _ hk => hk.2) (.slice Ao124 t778.length co124)) (fun _ h_ => h_.1))) hb); have n5_ := Aside0.mk (blk_below (g := gb745) (o := .cells #[.slice A0_0 l0_0.length c0_0] 24 (0, 0)) (by (with_reducible repeat (first | refine blk_drewN ?_ _ | refine blk_drew ?_ | refine blk_alloc ?_ _)); refine blk_far ?_ NB745_782.out _; (with_reducible repeat (first | refine blk_drewN ?_ _ | refine blk_drew ?_ | refine blk_alloc ?_ _)); exact BK745.out) hb); have n6_ := Aside0.mk (blk_below (g := gb754) (o := .cells #[.slice Ao26 t750.length co26] 29 (0, 0)) (by (with_reducible repeat (first | refine blk_drewN ?_ _ | refine blk_drew ?_ | refine blk_alloc ?_ _)); refine blk_far ?_ NB754_782.out _; (with_reducible repeat (first | refine blk_drewN ?_ _ | refine blk_drew ?_ | refine blk_alloc ?_ _)); exact BK754.out) hb); have n7_ := Aside0.mk (blk_below (g := gb758) (o := .cells #[.slice Ao32 t770.length co32] 29 (0, 0)) (by (with_reducible repeat (first | refine blk_drewN ?_ _ | refine blk_drew ?_ | refine blk_alloc ?_ _)); refine blk_far ?_ NB758_782.out _; (with_reducible repeat (first | refine blk_drewN ?_ _ | refine blk_drew ?_ | refine blk_alloc ?_ _)); exact BK758.out) hb); have n8_ := Aside0.mk (blk_below (g := gb763) (o := .cells #[.slice Ao38 t759.length co38] 29 (0, 0)) (by (with_reducible repeat (first | refine blk_drewN ?_ _ | refine blk_drew ?_ | refine blk_alloc ?_ _)); refine blk_far ?_ NB763_782.out _; (with_reducible repeat (first | refine blk_drewN ?_ _ | refine blk_drew ?_ | refine blk_alloc ?_ _)); exact BK763.out) hb); have n9_ := Aside0.mk (blk_below (g := gb782) (o := .cells #[.slice Ao124 t778.length co124] 29 (0, 0)) (by (with_reducible repeat (first | refine blk_drewN ?_ _ | refine blk_drew ?_ | refine blk_alloc ?_ _)); refine blk_put (cs := #[.slice none 0 0]) ?_ 0 _ rfl; (with_reducible repeat (first | refine blk_drewN ?_ _ | refine blk_drew ?_ | refine blk_alloc ?_ _)); exact BK782.out) hb); have n10_ := Aside0.mk (below_step (by repeat (first | (with_reducible first | exact HB.out | apply below_alloc | apply pw_below_drewN | apply below_drew1 | refine below_set ?_ GE745.out | refine below_set ?_ GE754.out | refine below_set ?_ GE758.out | refine below_set ?_ GE763.out | refine below_set ?_ GE782.out) | exact HB.out)) hb); clear HO_755000; clear HO_759000; clear HO_764000; clear HO777; clear HO780; clear BK745; clear BK754; clear BK758; clear BK763; clear BK782; clear HB; have HO_755000 := n0_; have HO_759000 := n1_; have HO_764000 := n2_; have HO777 := n3_; have HO780 := n4_; have BK745 := n5_; have BK754 := n6_; have BK758 := n7_; have BK763 := n8_; have BK782 := n9_; have HB := n10_; clear n0_ n1_ n2_ n3_ n4_ n5_ n6_ n7_ n8_ n9_ n10_; (try clear hb); (try clear hb2); (try clear hk); (try clear hi)))
               go_meet
               case rel => exact ⟨_, ((t781 != t753)), (by first | rfl | (simp; done) | (simp [*]; done)), H', ⟨by have := HJ16.out; have := HJ65.out; first | omega | exact Nat.le_refl _⟩, ⟨by (try simp only [hl759000_65]); (with_reducible repeat (first | apply Kd.R_alloc | apply Kd.R_drewN | apply Kd.R_drew)); exact Kd.R_mono HO_755000.out (fun _ hk => ⟨hk.1.1.1, ⟨hk.1.1.2, hk.2⟩⟩)⟩, ⟨by (try simp only [hl759000_65]); (with_reducible repeat (first | apply Kd.R_alloc | apply Kd.R_drewN | apply Kd.R_drew)); exact Kd.R_mono HO_759000.out (fun _ hk => ⟨hk.1.1.1, ⟨hk.1.1.2, hk.2⟩⟩)⟩, ⟨by (try simp only [hl759000_65]); (with_reducible repeat (first | apply Kd.R_alloc | apply Kd.R_drewN | apply Kd.R_drew)); exact Kd.R_mono HO_764000.out (fun _ hk => ⟨hk.1.1.1, ⟨hk.1.1.2, hk.2⟩⟩)⟩, ⟨by (try simp only [hl759000_65]); (with_reducible repeat (first | apply Kd.R_alloc | apply Kd.R_drewN | apply Kd.R_drew)); exact Kd.R_mono HO780.out (fun _ hk => ⟨hk.1.1.1.2, ⟨hk.1.1.2, hk.1.2⟩⟩)⟩, ⟨by (try simp only [hl759000_65]); (with_reducible repeat (first | refine blk_drewN ?_ _ | refine blk_drew ?_ | refine blk_alloc ?_ _)); exact BK745.out⟩, ⟨by (try simp only [hl759000_65]); (with_reducible repeat (first | refine blk_drewN ?_ _ | refine blk_drew ?_ | refine blk_alloc ?_ _)); exact BK754.out⟩, ⟨by (try simp only [hl759000_65]); (with_reducible repeat (first | refine blk_drewN ?_ _ | refine blk_drew ?_ | refine blk_alloc ?_ _)); exact BK758.out⟩, ⟨by (try simp only [hl759000_65]); (with_reducible repeat (first | refine blk_drewN ?_ _ | refine blk_drew ?_ | refine blk_alloc ?_ _)); exact BK763.out⟩, ⟨by (try simp only [hl759000_65]); (with_reducible repeat (first | refine blk_drewN ?_ _ | refine blk_drew ?_ | refine blk_alloc ?_ _)); exact BK782.out⟩, ⟨by repeat (first | (with_reducible first | exact HB.out | apply below_alloc | apply pw_below_drewN | apply below_drew1 | refine below_set ?_ GE745.out | refine below_set ?_ GE754.out | refine below_set ?_ GE758.out | refine below_set ?_ GE763.out | refine below_set ?_ GE782.out) | exact HB.out)⟩⟩
              ·
               replace c131 := Bool.eq_false_iff.mpr c131
               subst c131
               have H1 : (laws_FnExactPutKey.j2 kj65 t772 true t773) = some r := by rw [if_neg (show ¬ (false = true) by decide)] at H; exact H
               clear H
               have H := H1
               clear H1
               have H' := Aside0.mk H
               clear H
               have hnb142 := NB782_745.out
               have hnc142 := NB745_782.out
               have hnb143 := NB782_754.out
               have hnc143 := NB754_782.out
               have hnb144 := NB782_758.out
               have hnc144 := NB758_782.out
               have hnb145 := NB782_763.out
               have hnc145 := NB763_782.out
               have hcz146_0 : w123.cell? ⟨gb782, 0, none⟩ = some (.slice none 0 0) := (blk_cell BK782.out 0).trans rfl
               have hfz146_0 := blk_frozen BK782.out 0
               have hnb147 := NB754_745.out
               have hnc147 := NB745_754.out
               have hnb148 := NB754_758.out
               have hnc148 := NB758_754.out
               have hnb149 := NB754_763.out
               have hnc149 := NB763_754.out
               have hcz150_0 : w123.cell? ⟨gb754, 0, none⟩ = some (.slice Ao26 t750.length co26) := (blk_cell BK754.out 0).trans rfl
               have hfz150_0 := blk_frozen BK754.out 0
               go_wp2_with (first | ((with_reducible refine gate_callee (f := 17) rfl ?_); refine goesL_ (some 97) rfl rfl Try.func17 (by kernel_rfl) rfl #[.agg #[.slice Ao124 t778.length co124], .agg #[.slice Ao26 t750.length co26]] rfl (by (try simp only [List.map_toArray, List.map_cons, List.map_nil]); first | done | rfl | (simp only [List.length_drop, List.length_take]; rfl)) ?_; (with_reducible refine (laws_eqTreap.calls kj65 _ _ t778 _ _ t750 false _ ?side1 ?side2 ?side3 ?side4 A130.out).mono ?_); (case side1 => refine (Kd.R_reads' (e := 71) (base := w.heap.size) (ok := fun k_ => ((((True ∧ some k_ ≠ (.slice Ao26 t750.length co26 : Value).ownBlock) ∧ some k_ ≠ (.slice Ao32 t770.length co32 : Value).ownBlock) ∧ some k_ ≠ (.slice Ao38 t759.length co38 : Value).ownBlock) ∧ some k_ ≠ (.slice Ao121 t775.length co121 : Value).ownBlock)) (n := t778.length) (c := co124) ?_).2.2; exact (by (with_reducible repeat (first | apply Kd.R_alloc | apply Kd.R_drewN | apply Kd.R_drew)); exact (Kd.R_mono (Kd.R_far (p := ⟨gb782, 0, none⟩) (Kd.R_types HO780.out BK782.out (by decide)) (fun _ hk => hk.2) (.slice Ao124 t778.length co124)) (fun _ h_ => h_.1)))); (case side2 => exact (Kd.R_reads' HO780.out).2.1); (case side3 => refine (Kd.R_reads' (e := 71) (base := w.heap.size) (ok := fun k_ => (((some k_ ≠ (.slice Ao32 t770.length co32 : Value).ownBlock ∧ some k_ ≠ (.slice Ao38 t759.length co38 : Value).ownBlock) ∧ some k_ ≠ (.slice Ao121 t775.length co121 : Value).ownBlock) ∧ some k_ ≠ (.slice Ao124 t778.length co124 : Value).ownBlock)) (n := t750.length) (c := co26) ?_).2.2; exact (by (with_reducible repeat (first | apply Kd.R_alloc | apply Kd.R_drewN | apply Kd.R_drew)); exact (Kd.R_mono (Kd.R_far (p := ⟨gb782, 0, none⟩) (Kd.R_types HO_755000.out BK782.out (by decide)) (fun _ hk => hk.2) (.slice Ao124 t778.length co124)) (fun _ h_ => h_.1)))); (case side4 => exact (Kd.R_reads' HO_755000.out).2.1); rintro e w151 ⟨rfl, hb⟩; refine ⟨_, rfl, ?_⟩; have n0_ := Aside0.mk (Kd.R_below (by (with_reducible repeat (first | apply Kd.R_alloc | apply Kd.R_drewN | apply Kd.R_drew)); exact (Kd.R_mono (Kd.R_far (p := ⟨gb782, 0, none⟩) (Kd.R_types HO_755000.out BK782.out (by decide)) (fun _ hk => hk.2) (.slice Ao124 t778.length co124)) (fun _ h_ => h_.1))) hb); have n1_ := Aside0.mk (Kd.R_below (by (with_reducible repeat (first | apply Kd.R_alloc | apply Kd.R_drewN | apply Kd.R_drew)); exact (Kd.R_mono (Kd.R_far (p := ⟨gb782, 0, none⟩) (Kd.R_types HO_759000.out BK782.out (by decide)) (fun _ hk => hk.2) (.slice Ao124 t778.length co124)) (fun _ h_ => h_.1))) hb); have n2_ := Aside0.mk (Kd.R_below (by (with_reducible repeat (first | apply Kd.R_alloc | apply Kd.R_drewN | apply Kd.R_drew)); exact (Kd.R_mono (Kd.R_far (p := ⟨gb782, 0, none⟩) (Kd.R_types HO_764000.out BK782.out (by decide)) (fun _ hk => hk.2) (.slice Ao124 t778.length co124)) (fun _ h_ => h_.1))) hb); have n3_ := Aside0.mk (Kd.R_below (by (with_reducible repeat (first | apply Kd.R_alloc | apply Kd.R_drewN | apply Kd.R_drew)); exact (Kd.R_mono (Kd.R_far (p := ⟨gb782, 0, none⟩) (Kd.R_types HO777.out BK782.out (by decide)) (fun _ hk => hk.2) (.slice Ao124 t778.length co124)) (fun _ h_ => h_.1))) hb); have n4_ := Aside0.mk (Kd.R_below (by (with_reducible repeat (first | apply Kd.R_alloc | apply Kd.R_drewN | apply Kd.R_drew)); exact (Kd.R_mono (Kd.R_far (p := ⟨gb782, 0, none⟩) (Kd.R_types HO780.out BK782.out (by decide)) (fun _ hk => hk.2) (.slice Ao124 t778.length co124)) (fun _ h_ => h_.1))) hb); have n5_ := Aside0.mk (blk_below (g := gb745) (o := .cells #[.slice A0_0 l0_0.length c0_0] 24 (0, 0)) (by (with_reducible repeat (first | refine blk_drewN ?_ _ | refine blk_drew ?_ | refine blk_alloc ?_ _)); refine blk_far ?_ NB745_782.out _; (with_reducible repeat (first | refine blk_drewN ?_ _ | refine blk_drew ?_ | refine blk_alloc ?_ _)); exact BK745.out) hb); have n6_ := Aside0.mk (blk_below (g := gb754) (o := .cells #[.slice Ao26 t750.length co26] 29 (0, 0)) (by (with_reducible repeat (first | refine blk_drewN ?_ _ | refine blk_drew ?_ | refine blk_alloc ?_ _)); refine blk_far ?_ NB754_782.out _; (with_reducible repeat (first | refine blk_drewN ?_ _ | refine blk_drew ?_ | refine blk_alloc ?_ _)); exact BK754.out) hb); have n7_ := Aside0.mk (blk_below (g := gb758) (o := .cells #[.slice Ao32 t770.length co32] 29 (0, 0)) (by (with_reducible repeat (first | refine blk_drewN ?_ _ | refine blk_drew ?_ | refine blk_alloc ?_ _)); refine blk_far ?_ NB758_782.out _; (with_reducible repeat (first | refine blk_drewN ?_ _ | refine blk_drew ?_ | refine blk_alloc ?_ _)); exact BK758.out) hb); have n8_ := Aside0.mk (blk_below (g := gb763) (o := .cells #[.slice Ao38 t759.length co38] 29 (0, 0)) (by (with_reducible repeat (first | refine blk_drewN ?_ _ | refine blk_drew ?_ | refine blk_alloc ?_ _)); refine blk_far ?_ NB763_782.out _; (with_reducible repeat (first | refine blk_drewN ?_ _ | refine blk_drew ?_ | refine blk_alloc ?_ _)); exact BK763.out) hb); have n9_ := Aside0.mk (blk_below (g := gb782) (o := .cells #[.slice Ao124 t778.length co124] 29 (0, 0)) (by (with_reducible repeat (first | refine blk_drewN ?_ _ | refine blk_drew ?_ | refine blk_alloc ?_ _)); refine blk_put (cs := #[.slice none 0 0]) ?_ 0 _ rfl; (with_reducible repeat (first | refine blk_drewN ?_ _ | refine blk_drew ?_ | refine blk_alloc ?_ _)); exact BK782.out) hb); have n10_ := Aside0.mk (below_step (by repeat (first | (with_reducible first | exact HB.out | apply below_alloc | apply pw_below_drewN | apply below_drew1 | refine below_set ?_ GE745.out | refine below_set ?_ GE754.out | refine below_set ?_ GE758.out | refine below_set ?_ GE763.out | refine below_set ?_ GE782.out) | exact HB.out)) hb); clear HO_755000; clear HO_759000; clear HO_764000; clear HO777; clear HO780; clear BK745; clear BK754; clear BK758; clear BK763; clear BK782; clear HB; have HO_755000 := n0_; have HO_759000 := n1_; have HO_764000 := n2_; have HO777 := n3_; have HO780 := n4_; have BK745 := n5_; have BK754 := n6_; have BK758 := n7_; have BK763 := n8_; have BK782 := n9_; have HB := n10_; clear n0_ n1_ n2_ n3_ n4_ n5_ n6_ n7_ n8_ n9_ n10_; (try clear hb); (try clear hb2); (try clear hk); (try clear hi)))
               go_meet
               case rel => exact ⟨_, (true), (by first | rfl | (simp; done) | (simp [*]; done)), H', ⟨by have := HJ16.out; have := HJ65.out; first | omega | exact Nat.le_refl _⟩, ⟨by (try simp only [hl759000_65]); (with_reducible repeat (first | apply Kd.R_alloc | apply Kd.R_drewN | apply Kd.R_drew)); exact Kd.R_mono HO_755000.out (fun _ hk => ⟨hk.1.1.1, ⟨hk.1.1.2, hk.2⟩⟩)⟩, ⟨by (try simp only [hl759000_65]); (with_reducible repeat (first | apply Kd.R_alloc | apply Kd.R_drewN | apply Kd.R_drew)); exact Kd.R_mono HO_759000.out (fun _ hk => ⟨hk.1.1.1, ⟨hk.1.1.2, hk.2⟩⟩)⟩, ⟨by (try simp only [hl759000_65]); (with_reducible repeat (first | apply Kd.R_alloc | apply Kd.R_drewN | apply Kd.R_drew)); exact Kd.R_mono HO_764000.out (fun _ hk => ⟨hk.1.1.1, ⟨hk.1.1.2, hk.2⟩⟩)⟩, ⟨by (try simp only [hl759000_65]); (with_reducible repeat (first | apply Kd.R_alloc | apply Kd.R_drewN | apply Kd.R_drew)); exact Kd.R_mono HO780.out (fun _ hk => ⟨hk.1.1.1.2, ⟨hk.1.1.2, hk.1.2⟩⟩)⟩, ⟨by (try simp only [hl759000_65]); (with_reducible repeat (first | refine blk_drewN ?_ _ | refine blk_drew ?_ | refine blk_alloc ?_ _)); exact BK745.out⟩, ⟨by (try simp only [hl759000_65]); (with_reducible repeat (first | refine blk_drewN ?_ _ | refine blk_drew ?_ | refine blk_alloc ?_ _)); exact BK754.out⟩, ⟨by (try simp only [hl759000_65]); (with_reducible repeat (first | refine blk_drewN ?_ _ | refine blk_drew ?_ | refine blk_alloc ?_ _)); exact BK758.out⟩, ⟨by (try simp only [hl759000_65]); (with_reducible repeat (first | refine blk_drewN ?_ _ | refine blk_drew ?_ | refine blk_alloc ?_ _)); exact BK763.out⟩, ⟨by (try simp only [hl759000_65]); (with_reducible repeat (first | refine blk_drewN ?_ _ | refine blk_drew ?_ | refine blk_alloc ?_ _)); exact BK782.out⟩, ⟨by repeat (first | (with_reducible first | exact HB.out | apply below_alloc | apply pw_below_drewN | apply below_drew1 | refine below_set ?_ GE745.out | refine below_set ?_ GE754.out | refine below_set ?_ GE758.out | refine below_set ?_ GE763.out | refine below_set ?_ GE782.out) | exact HB.out)⟩⟩
             case rest =>
              clear HC109
              try clear c1
              try clear c2
              try clear p2
              try clear c3
              try clear c4
              try clear c4b0
              try clear c4b1
              try clear c5
              try clear c6
              try clear c6b0
              try clear c6b1
              try clear c7
              try clear c8
              try clear c9
              try clear c9b0
              try clear c10
              try clear c11
              try clear c12
              try clear c13
              try clear c14
              try clear c15
              try clear c17
              try clear c25
              try clear c27
              try clear c30
              try clear c33
              try clear c34
              try clear c39
              try clear c40
              try clear c41
              try clear c44
              try clear c45
              try clear c46
              try clear c47
              try clear c49
              try clear c50
              try clear c53
              try clear c54
              try clear c55
              try clear c57
              try clear c58
              try clear c61
              try clear c64
              try clear c71
              try clear c72
              try clear c73
              try clear c76
              try clear c76b0
              try clear c78
              try clear c79
              try clear c80
              try clear c81
              try clear c83
              try clear c84
              try clear c87
              try clear c88
              try clear c89
              try clear c91
              try clear c92
              try clear c95
              try clear c98
              try clear c98b0
              try clear c99
              try clear c100
              try clear c101
              try clear c106
              try clear c106b0
              try clear c106b1
              try clear c110
              try clear c111
              try clear c112
              try clear c117
              try clear c118
              try clear c125
              try clear c126
              try clear c127
              try clear c128
              try clear c131
              try clear c132
              try clear c133
              try clear c134
              try clear c135
              try clear c137
              try clear c138
              try clear c139
              try clear c142
              try clear c143
              try clear c144
              try clear c145
              try clear c147
              try clear c148
              try clear c149
              try clear hcz102_0
              try clear hcz104_0
              try clear hcz113_0
              try clear hcz115_0
              try clear hcz119_0
              try clear hcz11_0
              try clear hcz129_0
              try clear hcz136_0
              try clear hcz140_0
              try clear hcz146_0
              try clear hcz150_0
              try clear hcz19_0
              try clear hcz21_0
              try clear hcz28_0
              try clear hcz29_0
              try clear hcz35_0
              try clear hcz42_0
              try clear hcz48_0
              try clear hcz51_0
              try clear hcz56_0
              try clear hcz59_0
              try clear hcz74_0
              try clear hcz82_0
              try clear hcz85_0
              try clear hcz90_0
              try clear hcz93_0
              try clear hfz102_0
              try clear hfz104_0
              try clear hfz113_0
              try clear hfz115_0
              try clear hfz119_0
              try clear hfz11_0
              try clear hfz129_0
              try clear hfz136_0
              try clear hfz140_0
              try clear hfz146_0
              try clear hfz150_0
              try clear hfz19_0
              try clear hfz21_0
              try clear hfz28_0
              try clear hfz29_0
              try clear hfz35_0
              try clear hfz42_0
              try clear hfz48_0
              try clear hfz51_0
              try clear hfz56_0
              try clear hfz59_0
              try clear hfz74_0
              try clear hfz82_0
              try clear hfz85_0
              try clear hfz90_0
              try clear hfz93_0
              try clear p2
              obtain ⟨kq, x103_108, rfl, HA, HJ108, HO_755000, HO_759000, HO_764000, HO_783000, BK745, BK754, BK758, BK763, BK782, HB⟩ := hcut
              have hl764000_108 := (Kd.R_reads' HO_764000.out).1
              rw [hl764000_108] at HO_764000
              (try simp only [hl764000_108])
              (try simp only [hl764000_108] at BK745)
              (try simp only [hl764000_108] at BK754)
              (try simp only [hl764000_108] at BK758)
              (try simp only [hl764000_108] at BK763)
              (try simp only [hl764000_108] at BK782)
              (try simp only [hl764000_108] at HO_755000)
              (try simp only [hl764000_108] at HO_759000)
              (try simp only [hl764000_108] at HO_783000)
              cases kq with
              | zero => exact absurd HA.out (by simp [laws_FnExactPutKey.j2])
              | succ kj108 =>
               have H := HA.out
               clear HA
               simp only [laws_FnExactPutKey.j2] at H
               by_cases c152 : x103_108 = true
               ·
                subst c152
                have H1 : (some false) = some r := by rw [if_pos rfl] at H; exact H
                clear H
                have H := H1
                clear H1
                obtain rfl := Option.some.inj H
                go_wp2
                go_ret
                exact ⟨by first | rfl | (simp [errW_none, errW_some] <;> rfl) | (simp [*, errW_none, errW_some] <;> rfl), by repeat (first | (with_reducible first | exact HB.out | apply below_alloc | apply pw_below_drewN | apply below_drew1 | refine below_set ?_ GE745.out | refine below_set ?_ GE754.out | refine below_set ?_ GE758.out | refine below_set ?_ GE763.out | refine below_set ?_ GE782.out) | exact HB.out)⟩
               ·
                replace c152 := Bool.eq_false_iff.mpr c152
                subst c152
                have H1 : ((laws_heldTreap.f kj108 t773 1).bind fun t784 => (if t784 < 0 then (some false) else (if t784 = t772 then (some true) else (some false)))) = some r := by rw [if_neg (show ¬ (false = true) by decide)] at H; exact H
                clear H
                have H := H1
                clear H1
                replace H := Option.bind_eq_some_iff.mp H
                obtain ⟨t784, A1530, H⟩ := H
                replace H : (if t784 < 0 then (some false) else (if t784 = t772 then (some true) else (some false))) = some r := H
                have A153 := Aside0.mk A1530
                clear A1530
                by_cases c154 : t784 < 0
                ·
                 rw [if_pos c154] at H
                 have c154b0 : decide (t784 < 0) = true := decide_eq_true c154
                 clear c154
                 obtain rfl := Option.some.inj H
                 have hnb155 := NB763_745.out
                 have hnc155 := NB745_763.out
                 have hnb156 := NB763_754.out
                 have hnc156 := NB754_763.out
                 have hnb157 := NB763_758.out
                 have hnc157 := NB758_763.out
                 have hnb158 := NB763_782.out
                 have hnc158 := NB782_763.out
                 have hcz159_0 : wc.cell? ⟨gb763, 0, none⟩ = some (.slice Ao38 t773.length co38) := (blk_cell BK763.out 0).trans rfl
                 have hfz159_0 := blk_frozen BK763.out 0
                 go_wp2_with (first | ((with_reducible refine gate_callee (f := 30) rfl ?_); refine goesL_ (some 106) rfl rfl Try.func30 (by kernel_rfl) rfl #[.agg #[.slice Ao38 t773.length co38], .int .i64 1] rfl (by (try simp only [List.map_toArray, List.map_cons, List.map_nil]); first | done | rfl | (simp only [List.length_drop, List.length_take]; rfl)) ?_; (with_reducible refine (laws_heldTreap.calls kj108 _ _ t773 1 t784 _ ?side1 ?side2 A153.out).mono ?_); (case side1 => repeat (first | exact (Kd.R_reads' HO_764000.out).2.2 | (with_reducible refine Kd.C_alloc ?_ _) | (with_reducible refine Kd.C_drewN ?_ _) | (with_reducible refine Kd.C_drew ?_))); (case side2 => exact (Kd.R_reads' HO_764000.out).2.1); rintro e w160 ⟨rfl, hb⟩; refine ⟨_, rfl, ?_⟩; have n0_ := Aside0.mk (Kd.R_below (by (with_reducible repeat (first | apply Kd.R_alloc | apply Kd.R_drewN | apply Kd.R_drew)); exact HO_755000.out) hb); have n1_ := Aside0.mk (Kd.R_below (by (with_reducible repeat (first | apply Kd.R_alloc | apply Kd.R_drewN | apply Kd.R_drew)); exact HO_759000.out) hb); have n2_ := Aside0.mk (Kd.R_below (by (with_reducible repeat (first | apply Kd.R_alloc | apply Kd.R_drewN | apply Kd.R_drew)); exact HO_764000.out) hb); have n3_ := Aside0.mk (Kd.R_below (by (with_reducible repeat (first | apply Kd.R_alloc | apply Kd.R_drewN | apply Kd.R_drew)); exact HO_783000.out) hb); have n4_ := Aside0.mk (blk_below (g := gb745) (o := .cells #[.slice A0_0 l0_0.length c0_0] 24 (0, 0)) (by (with_reducible repeat (first | refine blk_drewN ?_ _ | refine blk_drew ?_ | refine blk_alloc ?_ _)); exact BK745.out) hb); have n5_ := Aside0.mk (blk_below (g := gb754) (o := .cells #[.slice Ao26 t750.length co26] 29 (0, 0)) (by (with_reducible repeat (first | refine blk_drewN ?_ _ | refine blk_drew ?_ | refine blk_alloc ?_ _)); exact BK754.out) hb); have n6_ := Aside0.mk (blk_below (g := gb758) (o := .cells #[.slice Ao32 t770.length co32] 29 (0, 0)) (by (with_reducible repeat (first | refine blk_drewN ?_ _ | refine blk_drew ?_ | refine blk_alloc ?_ _)); exact BK758.out) hb); have n7_ := Aside0.mk (blk_below (g := gb763) (o := .cells #[.slice Ao38 t773.length co38] 29 (0, 0)) (by (with_reducible repeat (first | refine blk_drewN ?_ _ | refine blk_drew ?_ | refine blk_alloc ?_ _)); exact BK763.out) hb); have n8_ := Aside0.mk (blk_below (g := gb782) (o := .cells #[.slice Ao124 t778.length co124] 29 (0, 0)) (by (with_reducible repeat (first | refine blk_drewN ?_ _ | refine blk_drew ?_ | refine blk_alloc ?_ _)); exact BK782.out) hb); have n9_ := Aside0.mk (below_step (by repeat (first | (with_reducible first | exact HB.out | apply below_alloc | apply pw_below_drewN | apply below_drew1 | refine below_set ?_ GE745.out | refine below_set ?_ GE754.out | refine below_set ?_ GE758.out | refine below_set ?_ GE763.out | refine below_set ?_ GE782.out) | exact HB.out)) hb); clear HO_755000; clear HO_759000; clear HO_764000; clear HO_783000; clear BK745; clear BK754; clear BK758; clear BK763; clear BK782; clear HB; have HO_755000 := n0_; have HO_759000 := n1_; have HO_764000 := n2_; have HO_783000 := n3_; have BK745 := n4_; have BK754 := n5_; have BK758 := n6_; have BK763 := n7_; have BK782 := n8_; have HB := n9_; clear n0_ n1_ n2_ n3_ n4_ n5_ n6_ n7_ n8_ n9_; (try clear hb); (try clear hb2); (try clear hk); (try clear hi)))
                 go_ret
                 exact ⟨by first | rfl | (simp [errW_none, errW_some] <;> rfl) | (simp [*, errW_none, errW_some] <;> rfl), by repeat (first | (with_reducible first | exact HB.out | apply below_alloc | apply pw_below_drewN | apply below_drew1 | refine below_set ?_ GE745.out | refine below_set ?_ GE754.out | refine below_set ?_ GE758.out | refine below_set ?_ GE763.out | refine below_set ?_ GE782.out) | exact HB.out)⟩
                ·
                 rw [if_neg c154] at H
                 have c154b0 : decide (t784 < 0) = false := decide_eq_false c154
                 clear c154
                 by_cases c161 : t784 = t772
                 ·
                  rw [if_pos c161] at H
                  have c161b0 : (t784 == t772) = true := beq_iff_eq.mpr c161
                  have c161b1 : (t784 != t772) = false := bne_eq_false_iff_eq.mpr c161
                  clear c161
                  obtain rfl := Option.some.inj H
                  have hnb162 := NB763_745.out
                  have hnc162 := NB745_763.out
                  have hnb163 := NB763_754.out
                  have hnc163 := NB754_763.out
                  have hnb164 := NB763_758.out
                  have hnc164 := NB758_763.out
                  have hnb165 := NB763_782.out
                  have hnc165 := NB782_763.out
                  have hcz166_0 : wc.cell? ⟨gb763, 0, none⟩ = some (.slice Ao38 t773.length co38) := (blk_cell BK763.out 0).trans rfl
                  have hfz166_0 := blk_frozen BK763.out 0
                  go_wp2_with (first | ((with_reducible refine gate_callee (f := 30) rfl ?_); refine goesL_ (some 106) rfl rfl Try.func30 (by kernel_rfl) rfl #[.agg #[.slice Ao38 t773.length co38], .int .i64 1] rfl (by (try simp only [List.map_toArray, List.map_cons, List.map_nil]); first | done | rfl | (simp only [List.length_drop, List.length_take]; rfl)) ?_; (with_reducible refine (laws_heldTreap.calls kj108 _ _ t773 1 t784 _ ?side1 ?side2 A153.out).mono ?_); (case side1 => repeat (first | exact (Kd.R_reads' HO_764000.out).2.2 | (with_reducible refine Kd.C_alloc ?_ _) | (with_reducible refine Kd.C_drewN ?_ _) | (with_reducible refine Kd.C_drew ?_))); (case side2 => exact (Kd.R_reads' HO_764000.out).2.1); rintro e w167 ⟨rfl, hb⟩; refine ⟨_, rfl, ?_⟩; have n0_ := Aside0.mk (Kd.R_below (by (with_reducible repeat (first | apply Kd.R_alloc | apply Kd.R_drewN | apply Kd.R_drew)); exact HO_755000.out) hb); have n1_ := Aside0.mk (Kd.R_below (by (with_reducible repeat (first | apply Kd.R_alloc | apply Kd.R_drewN | apply Kd.R_drew)); exact HO_759000.out) hb); have n2_ := Aside0.mk (Kd.R_below (by (with_reducible repeat (first | apply Kd.R_alloc | apply Kd.R_drewN | apply Kd.R_drew)); exact HO_764000.out) hb); have n3_ := Aside0.mk (Kd.R_below (by (with_reducible repeat (first | apply Kd.R_alloc | apply Kd.R_drewN | apply Kd.R_drew)); exact HO_783000.out) hb); have n4_ := Aside0.mk (blk_below (g := gb745) (o := .cells #[.slice A0_0 l0_0.length c0_0] 24 (0, 0)) (by (with_reducible repeat (first | refine blk_drewN ?_ _ | refine blk_drew ?_ | refine blk_alloc ?_ _)); exact BK745.out) hb); have n5_ := Aside0.mk (blk_below (g := gb754) (o := .cells #[.slice Ao26 t750.length co26] 29 (0, 0)) (by (with_reducible repeat (first | refine blk_drewN ?_ _ | refine blk_drew ?_ | refine blk_alloc ?_ _)); exact BK754.out) hb); have n6_ := Aside0.mk (blk_below (g := gb758) (o := .cells #[.slice Ao32 t770.length co32] 29 (0, 0)) (by (with_reducible repeat (first | refine blk_drewN ?_ _ | refine blk_drew ?_ | refine blk_alloc ?_ _)); exact BK758.out) hb); have n7_ := Aside0.mk (blk_below (g := gb763) (o := .cells #[.slice Ao38 t773.length co38] 29 (0, 0)) (by (with_reducible repeat (first | refine blk_drewN ?_ _ | refine blk_drew ?_ | refine blk_alloc ?_ _)); exact BK763.out) hb); have n8_ := Aside0.mk (blk_below (g := gb782) (o := .cells #[.slice Ao124 t778.length co124] 29 (0, 0)) (by (with_reducible repeat (first | refine blk_drewN ?_ _ | refine blk_drew ?_ | refine blk_alloc ?_ _)); exact BK782.out) hb); have n9_ := Aside0.mk (below_step (by repeat (first | (with_reducible first | exact HB.out | apply below_alloc | apply pw_below_drewN | apply below_drew1 | refine below_set ?_ GE745.out | refine below_set ?_ GE754.out | refine below_set ?_ GE758.out | refine below_set ?_ GE763.out | refine below_set ?_ GE782.out) | exact HB.out)) hb); clear HO_755000; clear HO_759000; clear HO_764000; clear HO_783000; clear BK745; clear BK754; clear BK758; clear BK763; clear BK782; clear HB; have HO_755000 := n0_; have HO_759000 := n1_; have HO_764000 := n2_; have HO_783000 := n3_; have BK745 := n4_; have BK754 := n5_; have BK758 := n6_; have BK763 := n7_; have BK782 := n8_; have HB := n9_; clear n0_ n1_ n2_ n3_ n4_ n5_ n6_ n7_ n8_ n9_; (try clear hb); (try clear hb2); (try clear hk); (try clear hi)))
                  go_ret
                  exact ⟨by first | rfl | (simp [errW_none, errW_some] <;> rfl) | (simp [*, errW_none, errW_some] <;> rfl), by repeat (first | (with_reducible first | exact HB.out | apply below_alloc | apply pw_below_drewN | apply below_drew1 | refine below_set ?_ GE745.out | refine below_set ?_ GE754.out | refine below_set ?_ GE758.out | refine below_set ?_ GE763.out | refine below_set ?_ GE782.out) | exact HB.out)⟩
                 ·
                  rw [if_neg c161] at H
                  have c161b0 : (t784 == t772) = false := beq_eq_false_iff_ne.mpr c161
                  have c161b1 : (t784 != t772) = true := bne_iff_ne.mpr c161
                  obtain rfl := Option.some.inj H
                  have hnb168 := NB763_745.out
                  have hnc168 := NB745_763.out
                  have hnb169 := NB763_754.out
                  have hnc169 := NB754_763.out
                  have hnb170 := NB763_758.out
                  have hnc170 := NB758_763.out
                  have hnb171 := NB763_782.out
                  have hnc171 := NB782_763.out
                  have hcz172_0 : wc.cell? ⟨gb763, 0, none⟩ = some (.slice Ao38 t773.length co38) := (blk_cell BK763.out 0).trans rfl
                  have hfz172_0 := blk_frozen BK763.out 0
                  go_wp2_with (first | ((with_reducible refine gate_callee (f := 30) rfl ?_); refine goesL_ (some 106) rfl rfl Try.func30 (by kernel_rfl) rfl #[.agg #[.slice Ao38 t773.length co38], .int .i64 1] rfl (by (try simp only [List.map_toArray, List.map_cons, List.map_nil]); first | done | rfl | (simp only [List.length_drop, List.length_take]; rfl)) ?_; (with_reducible refine (laws_heldTreap.calls kj108 _ _ t773 1 t784 _ ?side1 ?side2 A153.out).mono ?_); (case side1 => repeat (first | exact (Kd.R_reads' HO_764000.out).2.2 | (with_reducible refine Kd.C_alloc ?_ _) | (with_reducible refine Kd.C_drewN ?_ _) | (with_reducible refine Kd.C_drew ?_))); (case side2 => exact (Kd.R_reads' HO_764000.out).2.1); rintro e w173 ⟨rfl, hb⟩; refine ⟨_, rfl, ?_⟩; have n0_ := Aside0.mk (Kd.R_below (by (with_reducible repeat (first | apply Kd.R_alloc | apply Kd.R_drewN | apply Kd.R_drew)); exact HO_755000.out) hb); have n1_ := Aside0.mk (Kd.R_below (by (with_reducible repeat (first | apply Kd.R_alloc | apply Kd.R_drewN | apply Kd.R_drew)); exact HO_759000.out) hb); have n2_ := Aside0.mk (Kd.R_below (by (with_reducible repeat (first | apply Kd.R_alloc | apply Kd.R_drewN | apply Kd.R_drew)); exact HO_764000.out) hb); have n3_ := Aside0.mk (Kd.R_below (by (with_reducible repeat (first | apply Kd.R_alloc | apply Kd.R_drewN | apply Kd.R_drew)); exact HO_783000.out) hb); have n4_ := Aside0.mk (blk_below (g := gb745) (o := .cells #[.slice A0_0 l0_0.length c0_0] 24 (0, 0)) (by (with_reducible repeat (first | refine blk_drewN ?_ _ | refine blk_drew ?_ | refine blk_alloc ?_ _)); exact BK745.out) hb); have n5_ := Aside0.mk (blk_below (g := gb754) (o := .cells #[.slice Ao26 t750.length co26] 29 (0, 0)) (by (with_reducible repeat (first | refine blk_drewN ?_ _ | refine blk_drew ?_ | refine blk_alloc ?_ _)); exact BK754.out) hb); have n6_ := Aside0.mk (blk_below (g := gb758) (o := .cells #[.slice Ao32 t770.length co32] 29 (0, 0)) (by (with_reducible repeat (first | refine blk_drewN ?_ _ | refine blk_drew ?_ | refine blk_alloc ?_ _)); exact BK758.out) hb); have n7_ := Aside0.mk (blk_below (g := gb763) (o := .cells #[.slice Ao38 t773.length co38] 29 (0, 0)) (by (with_reducible repeat (first | refine blk_drewN ?_ _ | refine blk_drew ?_ | refine blk_alloc ?_ _)); exact BK763.out) hb); have n8_ := Aside0.mk (blk_below (g := gb782) (o := .cells #[.slice Ao124 t778.length co124] 29 (0, 0)) (by (with_reducible repeat (first | refine blk_drewN ?_ _ | refine blk_drew ?_ | refine blk_alloc ?_ _)); exact BK782.out) hb); have n9_ := Aside0.mk (below_step (by repeat (first | (with_reducible first | exact HB.out | apply below_alloc | apply pw_below_drewN | apply below_drew1 | refine below_set ?_ GE745.out | refine below_set ?_ GE754.out | refine below_set ?_ GE758.out | refine below_set ?_ GE763.out | refine below_set ?_ GE782.out) | exact HB.out)) hb); clear HO_755000; clear HO_759000; clear HO_764000; clear HO_783000; clear BK745; clear BK754; clear BK758; clear BK763; clear BK782; clear HB; have HO_755000 := n0_; have HO_759000 := n1_; have HO_764000 := n2_; have HO_783000 := n3_; have BK745 := n4_; have BK754 := n5_; have BK758 := n6_; have BK763 := n7_; have BK782 := n8_; have HB := n9_; clear n0_ n1_ n2_ n3_ n4_ n5_ n6_ n7_ n8_ n9_; (try clear hb); (try clear hb2); (try clear hk); (try clear hi)))
                  go_ret
                  exact ⟨by first | rfl | (simp [errW_none, errW_some] <;> rfl) | (simp [*, errW_none, errW_some] <;> rfl), by repeat (first | (with_reducible first | exact HB.out | apply below_alloc | apply pw_below_drewN | apply below_drew1 | refine below_set ?_ GE745.out | refine below_set ?_ GE754.out | refine below_set ?_ GE758.out | refine below_set ?_ GE763.out | refine below_set ?_ GE782.out) | exact HB.out)⟩
            ·
             rw [if_neg c106] at H
             have c106b0 : (t774 == t772) = false := beq_eq_false_iff_ne.mpr c106
             have c106b1 : (t774 != t772) = true := bne_iff_ne.mpr c106
             obtain rfl := Option.some.inj H
             have hnb174 := NB763_745.out
             have hnc174 := NB745_763.out
             have hnb175 := NB763_754.out
             have hnc175 := NB754_763.out
             have hnb176 := NB763_758.out
             have hnc176 := NB758_763.out
             have hcz177_0 : wc.cell? ⟨gb763, 0, none⟩ = some (.slice Ao38 t759.length co38) := (blk_cell BK763.out 0).trans rfl
             have hfz177_0 := blk_frozen BK763.out 0
             go_wp2_with (first | ((with_reducible refine gate_callee (f := 25) rfl ?_); refine goesL_ (some 78) rfl rfl Try.func25 (by kernel_rfl) rfl #[.agg #[.slice Ao38 t759.length co38], .int .i64 1] rfl (by (try simp only [List.map_toArray, List.map_cons, List.map_nil]); first | done | rfl | (simp only [List.length_drop, List.length_take]; rfl)) ?_; (with_reducible refine (laws_markTreap.calls kj65 (fun k_ => some k_ = (.slice Ao38 t759.length co38 : Value).ownBlock) (.slice Ao38 t759.length co38) t759 1 t772 t773 w _ ?side1 ?side2 A96.out).mono ?_); (case side1 => repeat (first | (with_reducible first | exact HB.out | apply below_alloc | apply pw_below_drewN | apply below_drew1 | refine below_set ?_ GE745.out | refine below_set ?_ GE754.out | refine below_set ?_ GE758.out | refine below_set ?_ GE763.out) | exact HB.out)); (case side2 => exact Kd.R_tight rfl HO_764000.out); rintro e w178 ⟨rfl, hy0, hb, hkp⟩; refine ⟨_, rfl, ?_⟩; have n0_ := Aside0.mk (Kd.R_mono (ok' := fun k_ => some k_ ≠ (.slice Ao32 t770.length co32 : Value).ownBlock ∧ some k_ ≠ (.slice Ao38 t759.length co38 : Value).ownBlock) (Kd.R_keptB (HO_755000.out) hkp (fun k_ hk_ hs_ => (hk_.2) hs_)) (fun k_ hk_ => ⟨hk_.1.1, hk_.1.2⟩)); have n1_ := Aside0.mk (Kd.R_mono (ok' := fun k_ => some k_ ≠ (.slice Ao26 t750.length co26 : Value).ownBlock ∧ some k_ ≠ (.slice Ao38 t759.length co38 : Value).ownBlock) (Kd.R_keptB (HO_759000.out) hkp (fun k_ hk_ hs_ => (hk_.2) hs_)) (fun k_ hk_ => ⟨hk_.1.1, hk_.1.2⟩)); have n2_ := Aside0.mk (Kd.R_reok rfl hy0 (fun k_ e_ => HO_764000.out.1 k_ e_)); have n3_ := Aside0.mk (blk_kept (by (with_reducible repeat (first | refine blk_drewN ?_ _ | refine blk_drew ?_ | refine blk_alloc ?_ _)); exact BK745.out) hkp (fun hs_ => (fun e_ => (Kd.R_ne HO_764000.out BK745.out (by decide)) e_) hs_)); have n4_ := Aside0.mk (blk_kept (by (with_reducible repeat (first | refine blk_drewN ?_ _ | refine blk_drew ?_ | refine blk_alloc ?_ _)); exact BK754.out) hkp (fun hs_ => (fun e_ => (Kd.R_ne HO_764000.out BK754.out (by decide)) e_) hs_)); have n5_ := Aside0.mk (blk_kept (by (with_reducible repeat (first | refine blk_drewN ?_ _ | refine blk_drew ?_ | refine blk_alloc ?_ _)); exact BK758.out) hkp (fun hs_ => (fun e_ => (Kd.R_ne HO_764000.out BK758.out (by decide)) e_) hs_)); have n6_ := Aside0.mk (blk_kept (by (with_reducible repeat (first | refine blk_drewN ?_ _ | refine blk_drew ?_ | refine blk_alloc ?_ _)); exact BK763.out) hkp (fun hs_ => (fun e_ => (Kd.R_ne HO_764000.out BK763.out (by decide)) e_) hs_)); have n7_ := Aside0.mk (hb); clear HO_755000; clear HO_759000; clear HO_764000; clear BK745; clear BK754; clear BK758; clear BK763; clear HB; have HO_755000 := n0_; have HO_759000 := n1_; have HO_764000 := n2_; have BK745 := n3_; have BK754 := n4_; have BK758 := n5_; have BK763 := n6_; have HB := n7_; clear n0_ n1_ n2_ n3_ n4_ n5_ n6_ n7_; (try clear hb); (try clear hkp); (try clear hy0); have hcz179_0 : w178.cell? ⟨gb763, 0, none⟩ = some (.slice Ao38 t759.length co38) := (blk_cell BK763.out 0).trans rfl; have hfz179_0 := blk_frozen BK763.out 0) | ((with_reducible refine gate_callee (f := 30) rfl ?_); refine goesL_ (some 81) rfl rfl Try.func30 (by kernel_rfl) rfl #[.agg #[.slice Ao38 t773.length co38], .int .i64 1] rfl (by (try simp only [List.map_toArray, List.map_cons, List.map_nil]); first | done | (rw [show t773.length = t759.length from (Kd.R_reads' HO_764000.out).1.symm] <;> rfl) | rfl | (simp only [List.length_drop, List.length_take]; rfl)) ?_; (with_reducible refine (laws_heldTreap.calls kj65 _ _ t773 1 t774 _ ?side1 ?side2 A97.out).mono ?_); (case side1 => repeat (first | exact (Kd.R_reads' HO_764000.out).2.2 | (with_reducible refine Kd.C_alloc ?_ _) | (with_reducible refine Kd.C_drewN ?_ _) | (with_reducible refine Kd.C_drew ?_))); (case side2 => rw [show t773.length = t759.length from (Kd.R_reads' HO_764000.out).1.symm]; exact (Kd.R_reads' HO_764000.out).2.1); rintro e w180 ⟨rfl, hb⟩; refine ⟨_, rfl, ?_⟩; have n0_ := Aside0.mk (Kd.R_below (by (with_reducible repeat (first | apply Kd.R_alloc | apply Kd.R_drewN | apply Kd.R_drew)); exact HO_755000.out) hb); have n1_ := Aside0.mk (Kd.R_below (by (with_reducible repeat (first | apply Kd.R_alloc | apply Kd.R_drewN | apply Kd.R_drew)); exact HO_759000.out) hb); have n2_ := Aside0.mk (Kd.R_below (by (with_reducible repeat (first | apply Kd.R_alloc | apply Kd.R_drewN | apply Kd.R_drew)); exact HO_764000.out) hb); have n3_ := Aside0.mk (blk_below (g := gb745) (o := .cells #[.slice A0_0 l0_0.length c0_0] 24 (0, 0)) (by (with_reducible repeat (first | refine blk_drewN ?_ _ | refine blk_drew ?_ | refine blk_alloc ?_ _)); exact BK745.out) hb); have n4_ := Aside0.mk (blk_below (g := gb754) (o := .cells #[.slice Ao26 t750.length co26] 29 (0, 0)) (by (with_reducible repeat (first | refine blk_drewN ?_ _ | refine blk_drew ?_ | refine blk_alloc ?_ _)); exact BK754.out) hb); have n5_ := Aside0.mk (blk_below (g := gb758) (o := .cells #[.slice Ao32 t770.length co32] 29 (0, 0)) (by (with_reducible repeat (first | refine blk_drewN ?_ _ | refine blk_drew ?_ | refine blk_alloc ?_ _)); exact BK758.out) hb); have n6_ := Aside0.mk (blk_below (g := gb763) (o := .cells #[.slice Ao38 t759.length co38] 29 (0, 0)) (by (with_reducible repeat (first | refine blk_drewN ?_ _ | refine blk_drew ?_ | refine blk_alloc ?_ _)); exact BK763.out) hb); have n7_ := Aside0.mk (below_step (by repeat (first | (with_reducible first | exact HB.out | apply below_alloc | apply pw_below_drewN | apply below_drew1 | refine below_set ?_ GE745.out | refine below_set ?_ GE754.out | refine below_set ?_ GE758.out | refine below_set ?_ GE763.out) | exact HB.out)) hb); clear HO_755000; clear HO_759000; clear HO_764000; clear BK745; clear BK754; clear BK758; clear BK763; clear HB; have HO_755000 := n0_; have HO_759000 := n1_; have HO_764000 := n2_; have BK745 := n3_; have BK754 := n4_; have BK758 := n5_; have BK763 := n6_; have HB := n7_; clear n0_ n1_ n2_ n3_ n4_ n5_ n6_ n7_; (try clear hb); (try clear hb2); (try clear hk); (try clear hi)))
             go_ret
             exact ⟨by first | rfl | (simp [errW_none, errW_some] <;> rfl) | (simp [*, errW_none, errW_some] <;> rfl), by repeat (first | (with_reducible first | exact HB.out | apply below_alloc | apply pw_below_drewN | apply below_drew1 | refine below_set ?_ GE745.out | refine below_set ?_ GE754.out | refine below_set ?_ GE758.out | refine below_set ?_ GE763.out) | exact HB.out)⟩
       ·
        replace c64 := Bool.eq_false_iff.mpr c64
        subst c64
        have H1 : (some false) = some r := by rw [if_neg (show ¬ (false = true) by decide)] at H; exact H
        clear H
        have H := H1
        clear H1
        obtain rfl := Option.some.inj H
        try go_wp2
        have n0_ := Aside0.mk (Kd.R_drew HO_755000.out)
        have n1_ := Aside0.mk (Kd.R_drew HO_759000.out)
        have n2_ := Aside0.mk (Kd.R_drew HO_764000.out)
        have n3_ := Aside0.mk (blk_drew BK745.out)
        have n4_ := Aside0.mk (blk_drew BK754.out)
        have n5_ := Aside0.mk (blk_drew BK758.out)
        have n6_ := Aside0.mk (blk_drew BK763.out)
        have n7_ := Aside0.mk (below_drew1 HB.out)
        clear HO_755000
        clear HO_759000
        clear HO_764000
        clear BK745
        clear BK754
        clear BK758
        clear BK763
        clear HB
        have HO_755000 := n0_
        have HO_759000 := n1_
        have HO_764000 := n2_
        have BK745 := n3_
        have BK754 := n4_
        have BK758 := n5_
        have BK763 := n6_
        have HB := n7_
        clear n0_ n1_ n2_ n3_ n4_ n5_ n6_ n7_
        refine start_ (n := 5) (S := fun w' => w'.cell? ⟨gb758, 0, none⟩ = some (.slice Ao32 t755.length co32) ∧ w'.cell? ⟨gb745, 0, none⟩ = some (.slice A0_0 l0_0.length c0_0)) (ds := []) #[false, false, false, false, false] (by kernel_rfl) rfl rfl ⟨(blk_cell BK758.out 0).trans rfl, (blk_cell BK745.out 0).trans rfl⟩ (fun hHeld => ?_)
        generalize wc.drew = w181 at HO_755000 HO_759000 HO_764000 BK745 BK754 BK758 BK763 HB hHeld ⊢
        refine take_ (i := 0) (N := some 55) (v := ?_) (a' := ?_) #[true, false, false, false, false] rfl rfl (by kernel_rfl) (fun _ _ _ h => h) (Or.inl ⟨by rfl, ?_⟩) hHeld ?_ ?_
        rotate_left
        ·
         rintro w' ⟨s0, s1⟩
         go_simp
         with_reducible rfl
        rotate_left
        ·
         simp only [Act.put, List.setIfInBounds_toArray, List.set_cons_zero, List.set_cons_succ, i64_w, i32_w]
         rfl
        refine take_ (i := 1) (N := some 56) (v := ?_) (a' := ?_) #[true, true, false, false, false] rfl rfl (by kernel_rfl) (fun _ _ _ h => h) (Or.inl ⟨by rfl, ?_⟩) hHeld ?_ ?_
        rotate_left
        ·
         rintro w' ⟨s0, s1⟩
         go_simp
         with_reducible rfl
        rotate_left
        ·
         simp only [Act.put, List.setIfInBounds_toArray, List.set_cons_zero, List.set_cons_succ, i64_w, i32_w]
         rfl
        refine one_ (i := 2) (N := some 57) #[true, true, true, false, false] rfl rfl (by kernel_rfl) (by decide) (fun K hK => ?_)
        refine goes_ Try.func15 (by kernel_rfl) rfl #[.agg #[.slice A0_0 l0_0.length c0_0]] (by rfl) rfl rfl (by (try simp only [List.map_toArray, List.map_cons, List.map_nil]); first | done | rfl | (simp only [List.length_drop, List.length_take]; rfl)) ?_
        with_reducible refine (laws_toTreap.calls kj16 _ _ l0_0 t765 _ ?side1 ?side2 A62.out).mono ?_
        (case side1 => repeat (first | exact (Kd.C_below HR0_0.out HB.out) | (with_reducible refine Kd.C_alloc ?_ _) | (with_reducible refine Kd.C_drewN ?_ _) | (with_reducible refine Kd.C_drew ?_)))
        (case side2 => exact HC0_0.out)
        rintro e w182 ⟨v766, rfl, ho0, hb⟩
        refine ⟨_, rfl, ?_⟩
        have n0_ := Aside0.mk (Kd.R_elder' (by (with_reducible repeat (first | apply Kd.R_alloc | apply Kd.R_drewN | apply Kd.R_drew)); exact HO_755000.out) (Kd.R_base ho0) hb)
        have n1_ := Aside0.mk (Kd.R_elder' (by (with_reducible repeat (first | apply Kd.R_alloc | apply Kd.R_drewN | apply Kd.R_drew)); exact HO_759000.out) (Kd.R_base ho0) hb)
        have n2_ := Aside0.mk (Kd.R_elder' (by (with_reducible repeat (first | apply Kd.R_alloc | apply Kd.R_drewN | apply Kd.R_drew)); exact HO_764000.out) (Kd.R_base ho0) hb)
        have n3_ := Aside0.mk (Kd.R_lower (Kd.R_new' (Kd.R_new' (Kd.R_new' ho0 (Kd.R_lt (by (with_reducible repeat (first | apply Kd.R_alloc | apply Kd.R_drewN | apply Kd.R_drew)); exact HO_755000.out))) (Kd.R_lt (by (with_reducible repeat (first | apply Kd.R_alloc | apply Kd.R_drewN | apply Kd.R_drew)); exact HO_759000.out))) (Kd.R_lt (by (with_reducible repeat (first | apply Kd.R_alloc | apply Kd.R_drewN | apply Kd.R_drew)); exact HO_764000.out))) (below_size (by repeat (first | (with_reducible first | exact HB.out | apply below_alloc | apply pw_below_drewN | apply below_drew1 | refine below_set ?_ GE745.out | refine below_set ?_ GE754.out | refine below_set ?_ GE758.out | refine below_set ?_ GE763.out) | exact HB.out))))
        have n4_ := Aside0.mk (blk_below (g := gb745) (o := .cells #[.slice A0_0 l0_0.length c0_0] 24 (0, 0)) (by (with_reducible repeat (first | refine blk_drewN ?_ _ | refine blk_drew ?_ | refine blk_alloc ?_ _)); exact BK745.out) hb)
        have n5_ := Aside0.mk (blk_below (g := gb754) (o := .cells #[.slice Ao26 t750.length co26] 29 (0, 0)) (by (with_reducible repeat (first | refine blk_drewN ?_ _ | refine blk_drew ?_ | refine blk_alloc ?_ _)); exact BK754.out) hb)
        have n6_ := Aside0.mk (blk_below (g := gb758) (o := .cells #[.slice Ao32 t755.length co32] 29 (0, 0)) (by (with_reducible repeat (first | refine blk_drewN ?_ _ | refine blk_drew ?_ | refine blk_alloc ?_ _)); exact BK758.out) hb)
        have n7_ := Aside0.mk (blk_below (g := gb763) (o := .cells #[.slice Ao38 t759.length co38] 29 (0, 0)) (by (with_reducible repeat (first | refine blk_drewN ?_ _ | refine blk_drew ?_ | refine blk_alloc ?_ _)); exact BK763.out) hb)
        have n8_ := Aside0.mk (below_step (by repeat (first | (with_reducible first | exact HB.out | apply below_alloc | apply pw_below_drewN | apply below_drew1 | refine below_set ?_ GE745.out | refine below_set ?_ GE754.out | refine below_set ?_ GE758.out | refine below_set ?_ GE763.out) | exact HB.out)) hb)
        clear HO_755000
        clear HO_759000
        clear HO_764000
        clear BK745
        clear BK754
        clear BK758
        clear BK763
        clear HB
        have HO_755000 := n0_
        have HO_759000 := n1_
        have HO_764000 := n2_
        have HO767 := n3_
        have BK745 := n4_
        have BK754 := n5_
        have BK758 := n6_
        have BK763 := n7_
        have HB := n8_
        clear n0_ n1_ n2_ n3_ n4_ n5_ n6_ n7_ n8_
        (try clear hb)
        (try clear hb2)
        (try clear hk)
        (try clear hi)
        (try clear ho0)
        obtain ⟨Ao183, co183, eo183⟩ := Kd.R_slice HO767.out
        (first | subst eo183 | (injection eo183 with f1_ f2_ f3_; have f4_ := f1_.symm; have f5_ := f3_.symm; clear f1_ f2_ f3_; subst f4_; subst f5_))
        refine hK.out _ _ ⟨(blk_cell BK758.out 0).trans rfl, (blk_cell BK745.out 0).trans rfl⟩ (fun hHeld => ?_)
        clear hK K
        refine norm_ (a' := ?_) ?_ ?_
        rotate_left
        ·
         show Act.put _ (some 57) _ = _
         simp only [Act.put, List.setIfInBounds_toArray, List.set_cons_zero, List.set_cons_succ, i64_w, i32_w]
         rfl
        refine one_ (i := 3) (N := some 58) #[true, true, true, true, false] rfl rfl (by kernel_rfl) (by decide) (fun K hK => ?_)
        refine goes_ Try.func17 (by kernel_rfl) rfl #[.agg #[.slice Ao32 t755.length co32], .agg #[.slice Ao183 t765.length co183]] (by rfl) rfl rfl (by (try simp only [List.map_toArray, List.map_cons, List.map_nil]); first | done | rfl | (simp only [List.length_drop, List.length_take]; rfl)) ?_
        with_reducible refine (laws_eqTreap.calls kj16 _ _ t755 _ _ t765 false _ ?side1 ?side2 ?side3 ?side4 A63.out).mono ?_
        (case side1 => repeat (first | exact (Kd.R_reads' HO_759000.out).2.2 | (with_reducible refine Kd.C_alloc ?_ _) | (with_reducible refine Kd.C_drewN ?_ _) | (with_reducible refine Kd.C_drew ?_)))
        (case side2 => exact (Kd.R_reads' HO_759000.out).2.1)
        (case side3 => repeat (first | exact (Kd.R_reads' HO767.out).2.2 | (with_reducible refine Kd.C_alloc ?_ _) | (with_reducible refine Kd.C_drewN ?_ _) | (with_reducible refine Kd.C_drew ?_)))
        (case side4 => exact (Kd.R_reads' HO767.out).2.1)
        rintro e w184 ⟨rfl, hb⟩
        refine ⟨_, rfl, ?_⟩
        have n0_ := Aside0.mk (Kd.R_below (by (with_reducible repeat (first | apply Kd.R_alloc | apply Kd.R_drewN | apply Kd.R_drew)); exact HO_755000.out) hb)
        have n1_ := Aside0.mk (Kd.R_below (by (with_reducible repeat (first | apply Kd.R_alloc | apply Kd.R_drewN | apply Kd.R_drew)); exact HO_759000.out) hb)
        have n2_ := Aside0.mk (Kd.R_below (by (with_reducible repeat (first | apply Kd.R_alloc | apply Kd.R_drewN | apply Kd.R_drew)); exact HO_764000.out) hb)
        have n3_ := Aside0.mk (Kd.R_below (by (with_reducible repeat (first | apply Kd.R_alloc | apply Kd.R_drewN | apply Kd.R_drew)); exact HO767.out) hb)
        have n4_ := Aside0.mk (blk_below (g := gb745) (o := .cells #[.slice A0_0 l0_0.length c0_0] 24 (0, 0)) (by (with_reducible repeat (first | refine blk_drewN ?_ _ | refine blk_drew ?_ | refine blk_alloc ?_ _)); exact BK745.out) hb)
        have n5_ := Aside0.mk (blk_below (g := gb754) (o := .cells #[.slice Ao26 t750.length co26] 29 (0, 0)) (by (with_reducible repeat (first | refine blk_drewN ?_ _ | refine blk_drew ?_ | refine blk_alloc ?_ _)); exact BK754.out) hb)
        have n6_ := Aside0.mk (blk_below (g := gb758) (o := .cells #[.slice Ao32 t755.length co32] 29 (0, 0)) (by (with_reducible repeat (first | refine blk_drewN ?_ _ | refine blk_drew ?_ | refine blk_alloc ?_ _)); exact BK758.out) hb)
        have n7_ := Aside0.mk (blk_below (g := gb763) (o := .cells #[.slice Ao38 t759.length co38] 29 (0, 0)) (by (with_reducible repeat (first | refine blk_drewN ?_ _ | refine blk_drew ?_ | refine blk_alloc ?_ _)); exact BK763.out) hb)
        have n8_ := Aside0.mk (below_step (by repeat (first | (with_reducible first | exact HB.out | apply below_alloc | apply pw_below_drewN | apply below_drew1 | refine below_set ?_ GE745.out | refine below_set ?_ GE754.out | refine below_set ?_ GE758.out | refine below_set ?_ GE763.out) | exact HB.out)) hb)
        clear HO_755000
        clear HO_759000
        clear HO_764000
        clear HO767
        clear BK745
        clear BK754
        clear BK758
        clear BK763
        clear HB
        have HO_755000 := n0_
        have HO_759000 := n1_
        have HO_764000 := n2_
        have HO767 := n3_
        have BK745 := n4_
        have BK754 := n5_
        have BK758 := n6_
        have BK763 := n7_
        have HB := n8_
        clear n0_ n1_ n2_ n3_ n4_ n5_ n6_ n7_ n8_
        (try clear hb)
        (try clear hb2)
        (try clear hk)
        (try clear hi)
        refine hK.out _ _ ⟨(blk_cell BK758.out 0).trans rfl, (blk_cell BK745.out 0).trans rfl⟩ (fun hHeld => ?_)
        clear hK K
        refine norm_ (a' := ?_) ?_ ?_
        rotate_left
        ·
         show Act.put _ (some 58) _ = _
         simp only [Act.put, List.setIfInBounds_toArray, List.set_cons_zero, List.set_cons_succ, i64_w, i32_w]
         rfl
        refine pure_ (i := 4) (N := some 59) (v := ?_) (a' := ?_) #[true, true, true, true, true] rfl rfl (by kernel_rfl) (fun _ _ _ h => h) (Or.inl ⟨by rfl, ?_⟩) ?_ ?_
        rotate_left
        ·
         intro w'
         go_simp
         with_reducible rfl
        rotate_left
        ·
         simp only [Act.put, List.setIfInBounds_toArray, List.set_cons_zero, List.set_cons_succ, i64_w, i32_w]
         rfl
        refine done_ (by kernel_rfl) ?_
        try go_wp2
        go_ret
        exact ⟨by first | rfl | (simp [errW_none, errW_some] <;> rfl) | (simp [*, errW_none, errW_some] <;> rfl), by repeat (first | (with_reducible first | exact HB.out | apply below_alloc | apply pw_below_drewN | apply below_drew1 | refine below_set ?_ GE745.out | refine below_set ?_ GE754.out | refine below_set ?_ GE758.out | refine below_set ?_ GE763.out) | exact HB.out)⟩

/-- THE ONE PURE STATEMENT of laws_FnExactPutKey. -/
def laws_FnExactPutKey.Pure : Prop := ∀ (l0_0 : List (S99)) (a1 : ByteArray) (a2 : ByteArray), (l0_0.length ≤ maxLen ∧ ∀ x_ ∈ l0_0, (x_.f0.size ≤ maxLen ∧ (x_.f1.size ≤ maxLen ∧ ((Lit.int .i64 x_.f2).wf = true ∧ (Lit.int .i64 x_.f3).wf = true)))) → a1.size ≤ maxLen → a2.size ≤ maxLen → ∃ k, laws_FnExactPutKey.f k l0_0 a1 a2 = some true
theorem laws_FnExactPutKey.walk (P : laws_FnExactPutKey.Pure) (A0_0 : Option Addr) (c0_0 : Nat) (l0_0 : List (S99)) (a1 : ByteArray) (a2 : ByteArray) (w : World) (hr0_0 : Kd.C k99 w A0_0 l0_0.length l0_0) (hc0_0 : l0_0.length ≤ c0_0) (w0_0 : (l0_0.length ≤ maxLen ∧ ∀ x_ ∈ l0_0, (x_.f0.size ≤ maxLen ∧ (x_.f1.size ≤ maxLen ∧ ((Lit.int .i64 x_.f2).wf = true ∧ (Lit.int .i64 x_.f3).wf = true))))) (w1 : a1.size ≤ maxLen) (w2 : a2.size ≤ maxLen) :
  Calls Try.prog 11 #[.agg #[.slice A0_0 l0_0.length c0_0], .string a1, .string a2] w fun e w' => e = .returned (.bool true) ∧ Below w.heap.size w w' := by
 obtain ⟨k, h⟩ := P l0_0 a1 a2 w0_0 w1 w2
 refine (laws_FnExactPutKey.calls k _ _ l0_0 a1 a2 true w hr0_0 hc0_0 h).mono ?_
 rintro e w' ⟨rfl, hd⟩
 exact ⟨rfl, hd⟩

end Go.Proofs.Ytjknkeipginpcaa.PQ
end

section
/- Treaps: keys put, cut and split: both sides at once. No conditions. -/
namespace Go.Proofs.Ytjknkeipginpcaa.TrG
set_option linter.unusedVariables false
set_option linter.unusedSimpArgs false
open Go.RowKit Go.Proofs.Ytjknkeipginpcaa.PQ Go.Proofs.YtjknkeipginpcaaW.PrintWords Go.Proofs.Ytjknkeipginpcaa.Pre Go.Proofs.Ytjknkeipginpcaa.Tr Go.Proofs.Ytjknkeipginpcaa.Pr Go.Proofs.Ytjknkeipginpcaa.Po

theorem plc_at : ∀ (l : List KV) (key : ByteArray) (i : Nat), i ≤ l.length → (∀ j, j < i → ls (l.getD j zKV).1 key = true) → (i < l.length → ls (l.getD i zKV).1 key = false) → plc l key = i
  | [], key, i, hi, h1, h2 => by
    have : i = 0 := by simpa using hi
    subst this
    rfl
  | a :: l, key, 0, hi, h1, h2 => by
    rw [plc_cons, if_neg]
    have := h2 (by simp)
    simpa using this
  | a :: l, key, i + 1, hi, h1, h2 => by
    have h0 : ls a.1 key = true := by simpa using h1 0 (by omega)
    rw [plc_cons, if_pos h0, plc_at l key i (by simpa using hi) (fun j hj => by simpa using h1 (j + 1) (by omega)) (fun h => by simpa using h2 (by simpa using h))]
theorem at_ev (ps : List Pb) (hp : ps.length ≤ 1048576) (key : ByteArray) : Evt (fun k => spec_l7At.f k ps key) (((plc (ps.map BuS.kv) key : Nat) : Int), hsk (ps.map BuS.kv) key) := by
  unfold spec_l7At.f
  have key1 : ∀ (m i : Nat), i + m = ps.length → (∀ j, j < i → ls ((ps.map BuS.kv).getD j zKV).1 key = true) → Evt (fun k => spec_l7At.l0 k ps key (i : Int)) (((plc (ps.map BuS.kv) key : Nat) : Int), hsk (ps.map BuS.kv) key) := by
    intro m
    induction m with
    | zero =>
      intro i hi hj
      have e := plc_at (ps.map BuS.kv) key i (by rw [List.length_map]; omega) hj (fun h => by rw [List.length_map] at h; omega)
      refine (Evt.step (fun k => spec_l7At.l0.eq_2 _ _ _ k) (Evt.neg (by omega) (Evt.const _))).eq ?_
      rw [e]
      unfold hsk
      rw [e, decide_eq_false (by rw [List.length_map]; omega)]
      rfl
    | succ m ih =>
      intro i hi hj
      have q1 : i < ps.length := by omega
      have e0 := (BuS.kv_key ps i q1).1
      refine Evt.step (fun k => spec_l7At.l0.eq_2 _ _ _ k) (Evt.pos (by omega) (Evt.pos (by omega) ?_))
      rw [← e0]
      cases h : ls ((ps.map BuS.kv).getD i zKV).1 key with
      | true =>
        refine Evt.pos h ?_
        rw [w64 (n := (i : Int) + 1) (by omega) (by omega), show (i : Int) + 1 = ((i + 1 : Nat) : Int) by omega]
        refine ih (i + 1) (by omega) (fun j h2 => ?_)
        rcases Nat.lt_or_ge j i with h3 | h3
        · exact hj j h3
        · obtain rfl : j = i := by omega
          exact h
      | false =>
        have e := plc_at (ps.map BuS.kv) key i (by rw [List.length_map]; omega) hj (fun _ => h)
        refine Evt.neg (by show ¬ ls _ _ = true; rw [h]; decide) ((Evt.const _).eq ?_)
        rw [e]
        unfold hsk
        rw [e, decide_eq_true (by rw [List.length_map]; exact q1), Bool.true_and]
        congr 1
        rw [Bool.eq_iff_iff, beq_iff_eq, decide_eq_true_iff]
        exact Byt.toList_iff
  exact key1 ps.length 0 (by omega) (fun j h => absurd h (Nat.not_lt_zero _))
theorem treapS_f (ps : List Pb) (hp : ps.length ≤ 1048576) (hk : ∀ x ∈ ps, x.f0.size ≤ 1048576) : spec_l7Treap.f ps = some (enc ps.length 0 (ps.map BuS.kv)) := if_pos ⟨hp, hk⟩
theorem encS (ps : List Pb) (l : List KV) (h : ps.map BuS.kv = l) : enc ps.length 0 (ps.map BuS.kv) = enc l.length 0 l := by
  subst h
  rw [List.length_map]
/-- What is known of a good treap's keys. -/
theorem good_of_ansP {L : List Lb} {l : List KV} (h : ansP L = (l.map bkI, true)) : l.length ≤ 60 ∧ Ri l ∧ ∀ x ∈ l, x.1.size ≤ 40 ∧ x.2.size ≤ 60 := by
  have hri := ansP_ri L
  rw [h] at hri
  refine ⟨by have := hri.2.1; rw [List.length_map] at this; exact this, ?_, fun x hx => hri.2.2 (bkI x) (List.mem_map.2 ⟨x, hx, rfl⟩)⟩
  have := hri.1
  rw [show ((l.map bkI, true) : List Pa × Bool).1 = l.map bkI from rfl, bkI_kv] at this
  exact this
theorem put_ev (ps : List Pb) (hp : ps.length ≤ 60) (key value : ByteArray) : Evt (fun k => spec_l7Put.f k ps key value) ((putL (ps.map BuS.kv) key value).map bkS) := by
  unfold spec_l7Put.f putL
  have hpl := plc_le (ps.map BuS.kv) key
  rw [List.length_map] at hpl
  have ha := at_ev ps (by omega) key
  refine Evt.bind ha (Evt.pos (by omega) (Evt.pos (by omega) (Evt.bsome (Evt.pos (by simp; omega) (Evt.bsome (Evt.pos (by simp; omega) (Evt.bsome ?_)))))))
  rw [Int.toNat_natCast]
  have back : ∀ qs : List Pb, (qs.map BuS.kv).map bkS = qs := kvS_bk
  cases hth : hsk (ps.map BuS.kv) key with
  | true =>
    have hlt := hsk_lt hth
    rw [List.length_map] at hlt
    refine Evt.pos rfl ?_
    rw [w64 (n := ((plc (ps.map BuS.kv) key : Nat) : Int) + 1) (by omega) (by omega), show (((plc (ps.map BuS.kv) key : Nat) : Int) + 1).toNat = plc (ps.map BuS.kv) key + 1 by omega]
    refine Evt.pos (by omega) (Evt.pos (by omega) (Evt.bsome (Evt.pos (by simp; omega) ((Evt.const _).eq ?_))))
    rw [if_pos rfl, List.map_append, List.map_cons, List.map_take, List.map_drop, back]
    simp [bkS]
  | false =>
    refine Evt.neg (fun h => by cases h) (Evt.bsome (Evt.pos (by simp; omega) ((Evt.const _).eq ?_)))
    rw [if_neg (fun h => by cases h), List.map_append, List.map_cons, List.map_take, List.map_drop, back]
    simp [bkS]
theorem putL_mem {l : List KV} {key value : ByteArray} {x : KV} (h : x ∈ putL l key value) : x ∈ l ∨ x = (key, value) := by
  unfold putL at h
  split at h
  · rcases List.mem_append.1 h with h | h
    · exact .inl (List.mem_of_mem_take h)
    · rcases List.mem_cons.1 h with h | h
      · exact .inr h
      · exact .inl (List.mem_of_mem_drop h)
  · rcases List.mem_append.1 h with h | h
    · exact .inl (List.mem_of_mem_take h)
    · rcases List.mem_cons.1 h with h | h
      · exact .inr h
      · exact .inl (List.mem_of_mem_drop h)
theorem put_both (L : List Lb) (key value : ByteArray) : Evt (fun k => spec_PutKey.f k L key value) (ansK L key value) := by
  unfold spec_PutKey.f
  have bad : ∀ (ps : List Pb), ansK L key value = ([], false) → Evt (fun k => spec_PutKey.j0 k key value ps true) (ansK L key value) := fun ps h => by
    rw [h]
    exact Evt.step (fun k => spec_PutKey.j0.eq_2 _ _ _ _ k) (Evt.pos rfl (Evt.const _))
  rcases both L with ⟨l, hg, h1, h2⟩ | ⟨h1, _, h2⟩
  · obtain ⟨h60, hri, hsz⟩ := good_of_ansP h1
    have ek : ansK L key value = if (1 ≤ key.size ∧ key.size ≤ 40) ∧ value.size ≤ 60 ∧ (putL l key value).length ≤ 60 then (enc (putL l key value).length 0 (putL l key value), true) else ([], false) := by
      unfold ansK
      rw [h1, show ((l.map bkI, true) : List Pa × Bool).1 = l.map bkI from rfl, bkI_kv]
      simp
    refine Evt.bind h2 (Evt.pos rfl (Evt.bind (Evt.of fun _ => in_eq _ _ _) ?_))
    by_cases hk : 1 ≤ key.size ∧ key.size ≤ 40
    · refine Evt.pos (decide_eq_true (by omega)) ?_
      by_cases hv : value.size ≤ 60
      · rw [show decide ((value.size : Int) > 60) = false from decide_eq_false (by omega)]
        have hp := put_ev (l.map bkS) (by rw [List.length_map]; exact h60) key value
        rw [bkS_kv] at hp
        refine Evt.step (fun k => spec_PutKey.j0.eq_2 _ _ _ _ k) (Evt.neg (by decide) (Evt.bind hp ?_))
        by_cases hl : (putL l key value).length ≤ 60
        · rw [ek.trans (if_pos ⟨hk, hv, hl⟩)]
          refine Evt.neg (by rw [List.length_map]; omega) ?_
          rw [treapS_f _ (by rw [List.length_map]; omega) (fun x hx => by
            obtain ⟨y, hy, rfl⟩ := List.mem_map.1 hx
            show y.1.size ≤ _
            rcases putL_mem hy with h | h
            · have := (hsz y h).1; omega
            · rw [h]; show key.size ≤ _; omega)]
          refine Evt.bsome ((Evt.const _).eq ?_)
          rw [encS _ _ (bkS_kv _)]
        · rw [ek.trans (if_neg (fun h => hl h.2.2))]
          exact Evt.pos (by rw [List.length_map]; omega) (Evt.const _)
      · rw [show decide ((value.size : Int) > 60) = true from decide_eq_true (by omega)]
        exact bad _ (ek.trans (if_neg (fun h => hv h.2.1)))
    · refine Evt.neg (by simp only [decide_eq_true_eq]; omega) ?_
      exact bad _ (ek.trans (if_neg (fun h => hk h.1)))
  · have hb := bad [] (by unfold ansK; rw [h1, if_neg (fun h => by cases h.1)])
    exact Evt.bind h2 (Evt.neg (by decide) hb)
theorem put_small (L : List Lb) (key value : ByteArray) : (ansK L key value).1.length ≤ 60 := by
  unfold ansK
  split
  · rename_i hc
    show (enc _ 0 _).length ≤ 60
    rw [enc_len _ _ _ (Nat.le_refl _)]
    exact hc.2.2.2
  · simp
end Go.Proofs.Ytjknkeipginpcaa.TrG
end

section
/- The law FnExactPutKey returns true at every input. No conditions. -/
namespace Go.Proofs.Ytjknkeipginpcaa.Pure
open Go.RowKit Go.Proofs.Ytjknkeipginpcaa.PQ Go.Proofs.YtjknkeipginpcaaW.PrintWords Go.Proofs.YtjknkeipginpcaaW.PrintLast Go.Proofs.Ytjknkeipginpcaa.Pre Go.Proofs.Ytjknkeipginpcaa.TrG Go.Proofs.Ytjknkeipginpcaa.Tr Go.Proofs.Ytjknkeipginpcaa.Po

theorem FnExactPutKey : laws_FnExactPutKey.Pure := by
  intro l a1 a2 hw hw1 hw2
  refine Evt.ex (r := true) ?_
  obtain ⟨t, ht, h2⟩ := sz_ev l hw.1 (fun x hx => ⟨(hw.2 x hx).1, (hw.2 x hx).2.1⟩)
  unfold laws_FnExactPutKey.f
  by_cases hbig : (a1.size : Int) > 1048576
  · exact Evt.pos hbig (Evt.const _)
  · refine Evt.neg hbig ?_
    by_cases hbig2 : (a2.size : Int) > 1048576
    · exact Evt.pos hbig2 (Evt.const _)
    · refine Evt.neg hbig2 ?_
      refine Evt.bind ht ?_
      by_cases hc : t < 0
      · exact Evt.pos hc (Evt.const _)
      · refine Evt.neg hc ?_
        obtain ⟨hl, _⟩ := h2 (by omega)
        have hto := to_ev l hl
        have hm : (l.map cvL).length ≤ 1048576 := by rw [List.length_map]; exact hl
        generalize l.map cvL = L at hto hm
        have hS := put_both L a1 a2
        have hI : impl_PutKey.f L a1 a2 = some (ansK L a1 a2) := if_pos ⟨hm, by omega, by omega⟩
        have hrl : (ansK L a1 a2).1.length ≤ 60 := put_small L a1 a2
        generalize ansK L a1 a2 = r at hS hI hrl
        obtain ⟨rl, rb⟩ := r
        have hrl : rl.length ≤ 60 := hrl
        have heq := eq_ev rl (by omega)
        have hmk := mark_evL L 1 (by omega) hm
        have hmr := mark_evL rl 1 (by omega) (by omega)
        have hhr := held_evL rl.length 1 (by omega) (by omega)
        refine Evt.bind hto (Evt.bind hS (Evt.bind hto ?_))
        rw [hI]
        refine Evt.bsome (Evt.bind heq (Evt.pos rfl ?_))
        refine Evt.step (fun k => laws_FnExactPutKey.j0.eq_2 _ _ _ _ _ _ _ _ _ k) (Evt.neg (by simp) (Evt.bind hto (Evt.bind (eq_ev L hm) (Evt.pos rfl (Evt.bind hmk (Evt.neg (by simp; omega) (Evt.bind heq (Evt.pos rfl ?_))))))))
        refine Evt.step (fun k => laws_FnExactPutKey.j1.eq_2 _ _ _ _ _ _ _ k) (Evt.neg (by simp) (Evt.bind hmr (Evt.bind hhr (Evt.neg (by omega) (Evt.pos rfl ?_)))))
        refine Evt.bind hto ?_
        rw [hI]
        refine Evt.bsome (Evt.bind heq (Evt.pos rfl ?_))
        exact Evt.step (fun k => laws_FnExactPutKey.j2.eq_2 _ _ _ k) (Evt.neg (by simp) (Evt.bind hhr (Evt.neg (by omega) (Evt.pos rfl (Evt.const _)))))
end Go.Proofs.Ytjknkeipginpcaa.Pure
end

/- Several texts in one: what the claim's last text rests on. No conditions. -/
import Derived.Test.YtjknkeipginpcaaMTi13
import Derived.Lib.Overlaps
import Derived.Lib.AppendZerosOnto
import Derived.Lib.AppendZeros
import Derived.Laws.Externs
import Derived.Laws.IdiomCopy
import Derived.Test.YtjknkeipginpcaaMTi5
import Derived.Test.YtjknkeipginpcaaMTi12
import Derived.Test.YtjknkeipginpcaaMTi10
import Derived.Deep.QuietTactic
import Derived.BigQuiet
import Derived.Test.YtjknkeipginpcaaMTi11
section
namespace Go.Proofs.Ytjknkeipginpcaa.TrG
set_option linter.unusedVariables false
set_option linter.unusedSimpArgs false
open Go.RowKit Go.Proofs.Ytjknkeipginpcaa.PQ Go.Proofs.YtjknkeipginpcaaW.PrintWords Go.Proofs.YtjknkeipginpcaaW.PrintLast Go.Proofs.YtjknkeipginpcaaW.PrintMore Go.Proofs.Ytjknkeipginpcaa.Pre Go.Proofs.Ytjknkeipginpcaa.Tr Go.Proofs.Ytjknkeipginpcaa.Pr Go.Proofs.Ytjknkeipginpcaa.Po
/-- A pair's cells. -/
def cel (p : Pa) : List Value := [.string p.f0, .string p.f1]
def cels (xs : List Pa) : List Value := xs.flatMap cel
theorem cels_cons (p : Pa) (xs : List Pa) : cels (p :: xs) = cel p ++ cels xs := rfl
theorem cels_app (xs ys : List Pa) : cels (xs ++ ys) = cels xs ++ cels ys := by simp [cels]
theorem cels_len : ∀ xs : List Pa, (cels xs).length = xs.length * 2
 | [] => rfl
 | p :: xs => by
  rw [cels_cons, List.length_append, cels_len xs, List.length_cons]
  show 2 + _ = _
  omega
theorem cels_take : ∀ (xs : List Pa) (i : Nat), (cels xs).take (i * 2) = cels (xs.take i)
 | [], i => by simp [cels]
 | p :: xs, 0 => by simp [cels]
 | p :: xs, i + 1 => by
  rw [cels_cons, List.take_succ_cons, cels_cons, ← cels_take xs i, List.take_append]
  have : (cel p).length = 2 := rfl
  rw [this, List.take_of_length_le (by rw [this]; omega), show (i + 1) * 2 - 2 = i * 2 by omega]
theorem cels_drop : ∀ (xs : List Pa) (i : Nat), (cels xs).drop (i * 2) = cels (xs.drop i)
 | [], i => by simp [cels]
 | p :: xs, 0 => by simp [cels]
 | p :: xs, i + 1 => by
  rw [cels_cons, List.drop_succ_cons, ← cels_drop xs i, List.drop_append]
  have : (cel p).length = 2 := rfl
  rw [this, List.drop_eq_nil_of_le (by rw [this]; omega), show (i + 1) * 2 - 2 = i * 2 by omega, List.nil_append]
theorem cels_one (xs : List Pa) : ∀ v ∈ cels xs, v.oneCell' = true := by
 intro v hv
 unfold cels at hv
 obtain ⟨p, _, hp⟩ := List.mem_flatMap.1 hv
 unfold cel at hp
 simp at hp
 rcases hp with rfl | rfl <;> rfl
theorem reps_cels : ∀ (xs : List Pa) (R : Pa → List Value → Prop) (hR : ∀ p cs, R p cs → cs = cel p) (inner : List Value), Reps R 2 xs inner → inner = cels xs
 | [], R, hR, inner, h => List.eq_nil_of_length_eq_zero (by have := h.1; simpa using this)
 | p :: xs, R, hR, inner, h => by
  have h0 := hR p _ (h.2 0 p rfl)
  have hl := h.1
  rw [List.length_cons] at hl
  have ht := reps_cels xs R hR (inner.drop 2) ⟨by rw [List.length_drop, hl]; omega, fun j q hq => by
   have := h.2 (j + 1) q hq
   rw [List.drop_drop, show 2 + j * 2 = (j + 1) * 2 by omega]
   exact this⟩
  rw [Nat.zero_mul, List.drop_zero] at h0
  rw [cels_cons, ← h0, ← ht, List.take_append_drop]
theorem cels_reps (xs : List Pa) (R : Pa → List Value → Prop) (hR : ∀ p, R p (cel p)) : Reps R 2 xs (cels xs) := by
 refine ⟨cels_len xs, fun j p hj => ?_⟩
 obtain ⟨hjl, rfl⟩ := List.getElem?_eq_some_iff.1 hj
 rw [cels_drop, List.drop_eq_getElem_cons hjl, cels_cons]
 exact hR _
theorem kM {w : World} {base : Nat} {ok : Nat → Prop} {p : Pa} {cs : List Value} (h : (k80).M w base ok p cs) : cs = cel p := k80_openM h
/-- A row of pairs of one's own, by its block. -/
theorem R_view {w : World} {lo g n c : Nat} {xs : List Pa} (h : Kd.R k80 80 w lo (fun _ => True) (.slice (some ⟨g, 0, none⟩) n c) xs) :
  n = xs.length ∧ lo ≤ g ∧ n ≤ c ∧ c ≤ maxLen ∧ ∃ cur : Array Value, w.heap[g]? = some (.cells cur 80 (0, 0)) ∧ cur.size = c * 2 ∧ cur.toList.take (n * 2) = cels xs := by
 obtain ⟨hn, _, _⟩ := Kd.R_reads' h
 subst hn
 obtain ⟨hok, inner, hown, hr⟩ := h
 rcases hown.2 with ⟨hv, _⟩ | ⟨g', cap', cur, hv, hb, hh, hnc, hcm, hcs, htake⟩
 ·
  cases hv
 injection hv with ha _ hc
 injection ha with ha
 injection ha with hg
 subst hg; subst hc
 exact ⟨rfl, hb, hnc, hcm, cur, hh, hcs, htake.trans (reps_cels xs _ (fun p cs hp => kM hp) inner hr)⟩
theorem R_made {w : World} {lo g c : Nat} {xs : List Pa} (hb : lo ≤ g) (hnc : xs.length ≤ c) (hcm : c ≤ maxLen) (cur : Array Value) (hh : w.heap[g]? = some (.cells cur 80 (0, 0))) (hcs : cur.size = c * 2) (ht : cur.toList.take (xs.length * 2) = cels xs) :
  Kd.R k80 80 w lo (fun _ => True) (.slice (some ⟨g, 0, none⟩) xs.length c) xs :=
 ⟨fun _ _ => trivial, cels xs, ⟨cels_len xs, .inr ⟨g, c, cur, rfl, hb, hh, hnc, hcm, hcs, ht⟩⟩, cels_reps xs _ (fun p => k80_mkM _ _ _ _)⟩

section
variable {P : Program} {ops : Array Oper} {rest : List Oper} {o : Oper} {a : Act} {Q : Exit → Act → World → Prop} {Kc : Act → World → Prop}
theorem copy_known {W : World} (d s : Operand) (t t' : TypeId) (ho : o.op = .call { callee := .builtin .copy, args := #[d, s], argTypes := #[t, t'] }) (v u : Value) (hd : a.eval d = v) (hs : a.eval s = u) {v' : Value} {w' : World}
  (hr : (Builtin.copy_ #[t, t'] o.type #[v, u]).run P W = .ok v' w') (h : Kc (a.put o.dst v') w') : o.wp P a W Kc Q := by
 unfold Oper.wp execOp
 simp only [ho, resolve, invoke, builtin, Sem.run_bind, Sem.run_pure, Result.andThen_ok, List.map_toArray, List.map_cons, List.map_nil, hd, hs, hr]
 exact h
theorem copy_list {W : World} (hgd : o.guard = none) (d s : Operand) (t t' : TypeId) (ho : o.op = .call { callee := .builtin .copy, args := #[d, s], argTypes := #[t, t'] }) (v u : Value) (hd : a.eval d = v) (hs : a.eval s = u) {v' : Value} {w' : World}
  (hr : (Builtin.copy_ #[t, t'] o.type #[v, u]).run P W = .ok v' w') (h : wpList P ops Q rest (a.put o.dst v') w') : wpList P ops Q (o :: rest) a W :=
 wpList_plain hgd fun _ hK => copy_known d s t t' ho v u hd hs hr (hK _ _ h)
theorem copy_step {W : World} (hw : Region.wanted o (yielded ops a.tmps) = true) (d s : Operand) (t t' : TypeId) (ho : o.op = .call { callee := .builtin .copy, args := #[d, s], argTypes := #[t, t'] }) (v u : Value) (hd : a.eval d = v) (hs : a.eval s = u) {v' : Value} {w' : World}
  (hr : (Builtin.copy_ #[t, t'] o.type #[v, u]).run P W = .ok v' w') (h : Kc (a.put o.dst v') w') :
  if Region.wanted o (yielded ops a.tmps) = true then Oper.wp P o a W Kc Q else Kc (a.put o.dst undef) W := by
 rw [if_pos hw]
 exact copy_known d s t t' ho v u hd hs hr h
end
theorem copy_run (W : World) (ty : TypeId) (g o dLen dCap : Nat) (a : Addr) (sLen sCap : Nat) (cs : List Value) (hn : cs.length = Nat.min sLen dLen * 2)
  (hsrc : ∀ j v, cs[j]? = some v → W.cell? (a.add j) = some v) (hc : ∀ j, j < cs.length → (W.cell? ⟨g, o + j, none⟩).isSome = true) (hf : ∀ j, j < cs.length → W.frozen? ⟨g, o + j, none⟩ = false) (h1 : ∀ v ∈ cs, v.oneCell' = true) :
  (Builtin.copy_ #[66, 66] ty #[.slice (some ⟨g, o, none⟩) dLen dCap, .slice (some a) sLen sCap]).run Try.prog W = .ok (goInt (Nat.min sLen dLen)) (W.setCells g o cs) := by
 have hst := run_storeCells_cells (P := Try.prog) g o cs 0 W (by simpa using hc) (by simpa using hf) h1
 have hfc := run_firstCells_some (P := Try.prog) (w := W) 2 (Nat.min sLen dLen) a sLen sCap cs hn hsrc
 have hsz : ∀ w, (sizeOf 80).run Try.prog w = .ok 2 w := fun w => by kernel_rfl
 simp only [Nat.add_zero] at hst
 simp only [Builtin.copy_]
 simp [run_underlying Try.underlying66, Builtin.lenOf, hsz, hfc, hst]
/-- What the two copies leave. -/
theorem lists (T C v : List Value) (i n : Nat) (hi : i ≤ n) (hv : v.length = 2) (hC : C.length = n * 2) (hT : T.take (n * 2) = C) (hTl : (n + 1) * 2 ≤ T.length) :
  ((T.take ((i + 1) * 2) ++ C.drop (i * 2) ++ T.drop ((i + 1) * 2 + (C.drop (i * 2)).length)).take (i * 2) ++ v ++ (T.take ((i + 1) * 2) ++ C.drop (i * 2) ++ T.drop ((i + 1) * 2 + (C.drop (i * 2)).length)).drop (i * 2 + v.length)).take ((n + 1) * 2) = C.take (i * 2) ++ v ++ C.drop (i * 2) := by
 have e1 : (T.take ((i + 1) * 2) ++ C.drop (i * 2) ++ T.drop ((i + 1) * 2 + (C.drop (i * 2)).length)).take (i * 2) = C.take (i * 2) := by
  rw [List.append_assoc, List.take_append_of_le_length (by rw [List.length_take]; omega), List.take_take, Nat.min_eq_left (by omega), ← hT, List.take_take, Nat.min_eq_left (by omega)]
 have e2 : (T.take ((i + 1) * 2) ++ C.drop (i * 2) ++ T.drop ((i + 1) * 2 + (C.drop (i * 2)).length)).drop (i * 2 + v.length) = C.drop (i * 2) ++ T.drop ((i + 1) * 2 + (C.drop (i * 2)).length) := by
  rw [List.append_assoc, List.drop_left' (by rw [List.length_take, hv]; omega)]
 rw [e1, e2, ← List.append_assoc]
 exact List.take_left' (by rw [List.length_append, List.length_append, List.length_take, List.length_drop, hC, hv]; omega)
/-- .. and in a new row. -/
theorem lists2 (T C v : List Value) (i n : Nat) (hi : i ≤ n) (hv : v.length = 2) (hC : C.length = n * 2) (hT : T.take (i * 2) = C.take (i * 2)) (hTl : (n + 1) * 2 ≤ T.length) :
  ((T.take (i * 2) ++ v ++ T.drop (i * 2 + v.length)).take ((i + 1) * 2) ++ C.drop (i * 2) ++ (T.take (i * 2) ++ v ++ T.drop (i * 2 + v.length)).drop ((i + 1) * 2 + (C.drop (i * 2)).length)).take ((n + 1) * 2) = C.take (i * 2) ++ v ++ C.drop (i * 2) := by
 have e1 : (T.take (i * 2) ++ v ++ T.drop (i * 2 + v.length)).take ((i + 1) * 2) = C.take (i * 2) ++ v := by
  rw [List.take_left' (by rw [List.length_append, List.length_take, hv]; omega), hT]
 rw [e1]
 exact List.take_left' (by rw [List.length_append, List.length_append, List.length_take, List.length_drop, hC, hv]; omega)
theorem overlaps_no (w : World) (g vb o : Nat) (cur cv : Array Value) (hg : w.heap[g]? = some (.cells cur 80 (0, 0))) (hv : w.heap[vb]? = some (.cells cv 80 (0, 0))) (hne : vb ≠ g) (hc : cur.size ≠ 0) (m vc lb cb : Nat) :
  (callFunc 86 #[.slice (some ⟨vb, 0, none⟩) m vc, .slice (some ⟨g, o, none⟩) lb cb]).run Try.prog w = .ok (.value (.bool false)) w := by
 rw [run_callFunc_extern Try.func86 (by kernel_rfl) (by kernel_rfl) (by kernel_rfl) (e := Extern.SlicesOverlaps.overlaps #[66, 66] #[4]) (by kernel_rfl),
  Lib.run_overlaps_apart w 66 4 80 Try.underlying66 2 (fun w => by kernel_rfl) ⟨vb, 0, none⟩ ⟨g, o, none⟩ m vc lb cb hne 80 80 cv.size cur.size (by simp [World.shape?, hv]) (by simp [World.shape?, hg]) hc (blk_frozen hv 0) (blk_frozen hv _)]
 rfl
set_option maxHeartbeats 2000000 in
set_option maxRecDepth 100000 in
theorem ins_shift (lo g c i vb : Nat) (xs : List Pa) (x : Pa) (w : World) (hR : Kd.R k80 80 w lo (fun _ => True) (.slice (some ⟨g, 0, none⟩) xs.length c) xs) (hi : i < xs.length) (hroom : xs.length + 1 ≤ c) (hv : w.heap[vb]? = some (.cells #[.string x.f0, .string x.f1] 80 (0, 0))) (hvb : vb ≠ g) (hn : xs.length ≤ 1048576) :
  Calls Try.prog 71 #[.slice (some ⟨g, 0, none⟩) xs.length c, .int .i64 (i : Int), .slice (some ⟨vb, 0, none⟩) 1 1] w fun e w' => e = .returned (.slice (some ⟨g, 0, none⟩) (xs.length + 1) c) ∧ w' = (w.drew.setCells g ((i + 1) * 2) (cels (xs.drop i))).setCells g (i * 2) (cel x) := by
 obtain ⟨_, hlo, hnc, hcm, cur, hh, hcs, ht⟩ := R_view hR
 obtain ⟨n, hnn⟩ : ∃ n, n = xs.length := ⟨_, rfl⟩
 rw [← hnn] at hi hroom hn hnc ht ⊢
 have hdl : (cels (xs.drop i)).length = (n - i) * 2 := by rw [cels_len, List.length_drop, hnn]
 have hroomj : ∀ j, j < c * 2 → (w.cell? ⟨g, j, none⟩).isSome = true := fun j hj => by rw [blk_cell hh, Array.getElem?_eq_getElem (by omega)]; rfl
 have hsrc : ∀ j v, (cels (xs.drop i))[j]? = some v → w.cell? ((⟨g, i * 2, none⟩ : Addr).add j) = some v := fun j v hj => by
  have hjl : j < (n - i) * 2 := by have := (List.getElem?_eq_some_iff.1 hj).1; omega
  rw [← cels_drop, ← ht, List.drop_take, List.getElem?_take, if_pos (by omega), List.getElem?_drop] at hj
  rw [add_at, blk_cell hh, ← Array.getElem?_toList]
  exact hj
 have hcp1 : ∀ ty dc sc, (Builtin.copy_ #[66, 66] ty #[.slice (some ⟨g, (i + 1) * 2, none⟩) (n + 1 - (i + 1)) dc, .slice (some ⟨g, i * 2, none⟩) (n + 1 - i) sc]).run Try.prog w.drew = .ok (goInt (Nat.min (n + 1 - i) (n + 1 - (i + 1)))) (w.drew.setCells g ((i + 1) * 2) (cels (xs.drop i))) := fun ty dc sc =>
  copy_run w.drew ty g ((i + 1) * 2) (n + 1 - (i + 1)) dc ⟨g, i * 2, none⟩ (n + 1 - i) sc (cels (xs.drop i)) (by rw [hdl, show Nat.min (n + 1 - i) (n + 1 - (i + 1)) = n - i by simp only [Nat.min_def]; split <;> omega])
   hsrc (fun j hj => hroomj _ (by omega)) (fun j hj => blk_frozen hh _) (cels_one _)
 obtain ⟨cur1, h3, h4, h5⟩ := setCells_row (cels (xs.drop i)) ((i + 1) * 2) w.drew cur hh (by omega)
 obtain ⟨W1, hW1⟩ : ∃ W1, W1 = w.drew.setCells g ((i + 1) * 2) (cels (xs.drop i)) := ⟨_, rfl⟩
 rw [← hW1] at h3 hcp1
 have hv1 : W1.heap[vb]? = some (.cells #[.string x.f0, .string x.f1] 80 (0, 0)) := by rw [hW1]; exact (setCells_far _ _ vb hvb).trans hv
 have hcp2 : ∀ (W : World), W.heap[g]? = W1.heap[g]? → W.heap[vb]? = W1.heap[vb]? → ∀ ty dc, (Builtin.copy_ #[66, 66] ty #[.slice (some ⟨g, i * 2, none⟩) (n + 1 - i) dc, .slice (some ⟨vb, 0, none⟩) 1 1]).run Try.prog W = .ok (goInt (Nat.min 1 (n + 1 - i))) (W.setCells g (i * 2) (cel x)) := fun W hWg hWv ty dc =>
  copy_run W ty g (i * 2) (n + 1 - i) dc ⟨vb, 0, none⟩ 1 1 (cel x) (by rw [show Nat.min 1 (n + 1 - i) = 1 by simp only [Nat.min_def]; split <;> omega]; rfl)
   (fun j v hj => by rw [add_plain, blk_cell (hWv.trans hv1)]; simpa [cel] using hj) (fun j hj => by rw [blk_cell (hWg.trans h3), Array.getElem?_eq_getElem (by have : (cel x).length = 2 := rfl; omega)]; rfl) (fun j hj => blk_frozen (hWg.trans h3) _)
   (fun v hv => cels_one [x] v (by rw [cels_cons]; exact List.mem_append_left _ hv))
 have hov : ∀ o m vc lb cb, (callFunc 86 #[.slice (some ⟨vb, 0, none⟩) m vc, .slice (some ⟨g, o, none⟩) lb cb]).run Try.prog w = .ok (.value (.bool false)) w := fun o m vc lb cb => overlaps_no w g vb o cur _ hh hv hvb (by omega) m vc lb cb
 have HW1 := aM hW1
 have hz2 : ¬ ((i : Int) = (n : Int)) := by omega
 have hz3 : ¬ ((c : Int) < (n : Int) + 1) := by omega
 have hb1 : (0 : Int) ≤ (i : Int) + 1 := by omega
 have hb0 : (0 : Int) ≤ (n : Int) + 1 := by omega
 have hin : i ≤ n := by omega
 have htn : ((i : Int) + 1).toNat = i + 1 := by omega
 have htm : ((n : Int) + 1).toNat = n + 1 := by omega
 have hb2 : ¬ (c = i + 1) := by omega
 have hb3 : (i : Int) ≤ (n : Int) + 1 := by omega
 have hb5 : (i : Int) + 1 ≤ (n : Int) + 1 := by omega
 have hb6 : (n : Int) + 1 ≤ (c : Int) := by omega
 have hb4 : ¬ (c = i) := by omega
 have hw1 : IntKind.i64.wrap ((i : Int) + 1) = (i : Int) + 1 := by rw [IntKind.wrap_i64]; omega
 have hnb : (n : Int) ≤ 1048576 := by omega
 have hib : (i : Int) ≤ 1048576 := by omega
 have hb7 : (i : Int) ≤ (n : Int) := by omega
 clear hsrc hroomj hdl hh hcs ht h3 h4 h5 hv hv1 hnn hR hW1 hvb hlo hnc hcm hn hi
 go_enter Try.func71, Try.ntmps71
 go_wp2_with (simp only [hov])
 go_region_law (refine copy_step (by rfl) (.tmp 73) (.tmp 76) 66 66 rfl (.slice (some ⟨g, (i + 1) * 2, none⟩) (n + 1 - (i + 1)) (c - (i + 1))) (.slice (some ⟨g, i * 2, none⟩) (n + 1 - i) (c - i)) (by simp [Act.eval, Act.put]) (by simp [Act.eval, Act.put]) (hcp1 _ _ _) ?_)
 go_wp2_with (at_builtin; refine copy_list rfl _ _ 66 66 rfl _ _ rfl rfl (hcp2 _ rfl rfl _ _) ?_)
 go_ret
 first | exact ⟨rfl, rfl⟩ | exact ⟨rfl, by rw [HW1.out]⟩
theorem shift_R (w : World) (lo g c i : Nat) (xs : List Pa) (x : Pa) (hR : Kd.R k80 80 w lo (fun _ => True) (.slice (some ⟨g, 0, none⟩) xs.length c) xs) (hi : i ≤ xs.length) (hroom : xs.length + 1 ≤ c) (hlw : lo ≤ w.heap.size) :
  Kd.R k80 80 ((w.drew.setCells g ((i + 1) * 2) (cels (xs.drop i))).setCells g (i * 2) (cel x)) lo (fun _ => True) (.slice (some ⟨g, 0, none⟩) (xs.length + 1) c) (xs.take i ++ x :: xs.drop i) ∧ Below lo w ((w.drew.setCells g ((i + 1) * 2) (cels (xs.drop i))).setCells g (i * 2) (cel x)) := by
 obtain ⟨_, hlo, hnc, hcm, cur, hh, hcs, ht⟩ := R_view hR
 have hdl : (cels (xs.drop i)).length = (xs.length - i) * 2 := by rw [cels_len, List.length_drop]
 have h2 : (cel x).length = 2 := rfl
 obtain ⟨cur1, h3, h4, h5⟩ := setCells_row (cels (xs.drop i)) ((i + 1) * 2) w.drew cur hh (by omega)
 obtain ⟨cur2, h6, h7, h8⟩ := setCells_row (cel x) (i * 2) _ cur1 h3 (by omega)
 have hlen : (xs.take i ++ x :: xs.drop i).length = xs.length + 1 := by rw [List.length_append, List.length_take, List.length_cons, List.length_drop]; omega
 refine ⟨?_, ?_⟩
 ·
  have hm := R_made (lo := lo) (g := g) (c := c) (xs := xs.take i ++ x :: xs.drop i) hlo (by rw [hlen]; exact hroom) hcm cur2 h6 (by omega) (by
   rw [hlen, h8, h5]
   have e := lists cur.toList (cels xs) (cel x) i xs.length hi rfl (cels_len xs) ht (by have e := Array.length_toList (xs := cur); omega)
   rw [cels_drop, cels_take] at e
   rw [cels_app, cels_cons, ← List.append_assoc]
   exact e)
  rw [hlen] at hm
  exact hm
 ·
  obtain ⟨s1, s2, s3, s4⟩ := setCells_same g (cels (xs.drop i)) ((i + 1) * 2) w.drew
  obtain ⟨t1, t2, t3, t4⟩ := setCells_same g (cel x) (i * 2) (w.drew.setCells g ((i + 1) * 2) (cels (xs.drop i)))
  exact ⟨t1.trans s1, t2.trans s2, t3.trans s3, by rw [t4, s4]; exact Nat.le_refl _, fun b hb => (setCells_far _ _ b (by omega)).trans (setCells_far _ _ b (by omega))⟩
theorem grow_R (w : World) (lo i G : Nat) (xs : List Pa) (x : Pa) (ROW : Array Value) (hi : i ≤ xs.length) (hrs : ROW.size = G * 2) (hG : xs.length + 1 ≤ G) (hGm : G ≤ maxLen) (ht : ROW.toList.take (i * 2) = cels (xs.take i)) (hlw : lo ≤ w.heap.size) :
  Kd.R k80 80 ((((w.alloc (.cells ROW 80)).drew.setCells w.heap.size (i * 2) (cel x)).drew).setCells w.heap.size ((i + 1) * 2) (cels (xs.drop i))) lo (fun _ => True) (.slice (some ⟨w.heap.size, 0, none⟩) (xs.length + 1) G) (xs.take i ++ x :: xs.drop i) ∧ Below lo w ((((w.alloc (.cells ROW 80)).drew.setCells w.heap.size (i * 2) (cel x)).drew).setCells w.heap.size ((i + 1) * 2) (cels (xs.drop i))) := by
 have hdl : (cels (xs.drop i)).length = (xs.length - i) * 2 := by rw [cels_len, List.length_drop]
 have h2 : (cel x).length = 2 := rfl
 have hh : (w.alloc (.cells ROW 80)).drew.heap[w.heap.size]? = some (.cells ROW 80 (0, 0)) := at_new w _
 obtain ⟨cur1, h3, h4, h5⟩ := setCells_row (cel x) (i * 2) _ ROW hh (by omega)
 obtain ⟨cur2, h6, h7, h8⟩ := setCells_row (cels (xs.drop i)) ((i + 1) * 2) _ cur1 (show (((w.alloc (.cells ROW 80)).drew.setCells w.heap.size (i * 2) (cel x)).drew).heap[w.heap.size]? = _ from h3) (by omega)
 have hlen : (xs.take i ++ x :: xs.drop i).length = xs.length + 1 := by rw [List.length_append, List.length_take, List.length_cons, List.length_drop]; omega
 refine ⟨?_, ?_⟩
 ·
  have hm := R_made (lo := lo) (g := w.heap.size) (c := G) (xs := xs.take i ++ x :: xs.drop i) hlw (by rw [hlen]; exact hG) hGm cur2 h6 (by omega) (by
   rw [hlen, h8, h5]
   have e := lists2 ROW.toList (cels xs) (cel x) i xs.length hi rfl (cels_len xs) (by rw [ht, cels_take]) (by have e := Array.length_toList (xs := ROW); omega)
   rw [cels_drop, cels_take] at e
   rw [cels_app, cels_cons, ← List.append_assoc]
   exact e)
  rw [hlen] at hm
  exact hm
 ·
  obtain ⟨s1, s2, s3, s4⟩ := setCells_same w.heap.size (cel x) (i * 2) (w.alloc (.cells ROW 80)).drew
  obtain ⟨t1, t2, t3, t4⟩ := setCells_same w.heap.size (cels (xs.drop i)) ((i + 1) * 2) (((w.alloc (.cells ROW 80)).drew.setCells w.heap.size (i * 2) (cel x)).drew)
  have hb : Below w.heap.size w (w.alloc (.cells ROW 80)) := below_alloc (Below.refl _ _) _
  exact ⟨t1.trans (s1.trans hb.os), t2.trans (s2.trans hb.tape), t3.trans (s3.trans hb.output), by rw [t4]; show w.heap.size ≤ ((w.alloc (.cells ROW 80)).drew.setCells w.heap.size (i * 2) (cel x)).heap.size; rw [s4]; exact hb.size, fun b hbl => (setCells_far _ _ b (by omega)).trans ((setCells_far _ _ b (by omega)).trans (hb.block b (by omega)))⟩
set_option maxHeartbeats 2000000 in
set_option maxRecDepth 100000 in
theorem ins_grow (lo g c i vb : Nat) (xs : List Pa) (x : Pa) (w : World) (hR : Kd.R k80 80 w lo (fun _ => True) (.slice (some ⟨g, 0, none⟩) xs.length c) xs) (hi : i < xs.length) (hroom : c < xs.length + 1) (hv : w.heap[vb]? = some (.cells #[.string x.f0, .string x.f1] 80 (0, 0))) (hn : xs.length ≤ 1048576) (hlw : lo ≤ w.heap.size) :
  Calls Try.prog 71 #[.slice (some ⟨g, 0, none⟩) xs.length c, .int .i64 (i : Int), .slice (some ⟨vb, 0, none⟩) 1 1] w fun e w' => ∃ G : Nat, e = .returned (.slice (some ⟨w.heap.size, 0, none⟩) (xs.length + 1) G) ∧ Kd.R k80 80 w' lo (fun _ => True) (.slice (some ⟨w.heap.size, 0, none⟩) (xs.length + 1) G) (xs.take i ++ x :: xs.drop i) ∧ Below lo w w' := by
 obtain ⟨_, hlo, hnc, hcm, cur, hh, hcs, ht⟩ := R_view hR
 obtain ⟨i0, hi0, hz0, hzs, hzb⟩ := info_parts info80
 obtain ⟨n, hnn⟩ : ∃ n, n = xs.length := ⟨_, rfl⟩
 have hgw : g < w.heap.size := blk_lt hh
 have hvw : vb < w.heap.size := blk_lt hv
 rw [← hnn] at hi hroom hn hnc ht
 have hkk : (n : Int) + 1 - (i : Int) = ((n + 1 - i : Nat) : Int) := by omega
 have hik : i + (n + 1 - i) = n + 1 := by omega
 have hold : (Builtin.firstCells i0.size i (.slice (some ⟨g, 0, none⟩) i c)).run Try.prog w.drew = .ok (cels (xs.take i)).toArray w.drew := by
  rw [hzs]
  exact run_firstCells_some (w := w.drew) 2 i ⟨g, 0, none⟩ i c (cels (xs.take i)) (by rw [cels_len, List.length_take]; omega) (fun j v hj => by
   rw [add_plain]
   show w.cell? _ = _
   rw [blk_cell hh, ← Array.getElem?_toList]
   rw [← cels_take, List.getElem?_take] at hj
   split at hj
   ·
    rw [← ht, List.getElem?_take] at hj
    split at hj
    ·
     exact hj
    ·
     cases hj
   ·
    cases hj)
 have hrz : ∀ ty, (Builtin.append_ #[66, 3] ty #[.slice (some ⟨g, 0, none⟩) i c, .int .i64 ((n : Int) + 1 - (i : Int))]).run Try.prog w = .ok (.slice (some ⟨w.heap.size, 0, none⟩) (n + 1) (grownCap w (n + 1) c 80)) (w.drew.alloc (.cells ((cels (xs.take i)).toArray ++ Builtin.zeroCells (Value.cells (.agg #[(.string ⟨#[]⟩), (.string ⟨#[]⟩)])) (n + 1 - i) ++ Builtin.zeroCells (Value.cells (.agg #[(.string ⟨#[]⟩), (.string ⟨#[]⟩)])) (grownCap w (n + 1) c 80 - (n + 1))) 80)) := fun ty => by
  have h := Lib.run_append_grow_zeros w 66 3 ty 80 i0 _ .i64 .i64 Try.underlying66 Try.underlying3 hi0 hz0 (some ⟨g, 0, none⟩) i c (cels (xs.take i)) hold (n + 1 - i) (by omega) (by omega) (by omega) (by omega) (by rw [hzb]; omega) (by rw [hzb, hik]; exact growslice_fits hroom (by omega))
  rw [hik] at h
  rw [hkk]
  exact h
 obtain ⟨G, hG⟩ : ∃ G, G = grownCap w (n + 1) c 80 := ⟨_, rfl⟩
 have hGn : n + 1 ≤ G := by rw [hG]; exact grownCap_ge w _ _ _
 have hGm : G ≤ maxLen := by rw [hG]; exact grownCap_le_maxLen w (n + 1) c 80 (by unfold maxLen; omega)
 obtain ⟨ROW, hROW⟩ : ∃ ROW : Array Value, ROW = (cels (xs.take i)).toArray ++ Builtin.zeroCells (Value.cells (.agg #[(.string ⟨#[]⟩), (.string ⟨#[]⟩)])) (n + 1 - i) ++ Builtin.zeroCells (Value.cells (.agg #[(.string ⟨#[]⟩), (.string ⟨#[]⟩)])) (G - (n + 1)) := ⟨_, rfl⟩
 have htl : (cels (xs.take i)).length = i * 2 := by rw [cels_len, List.length_take]; omega
 have hrs : ROW.size = G * 2 := by
  rw [hROW]
  simp [Builtin.zeroCells, Value.cells, htl]
  omega
 have hrt : ROW.toList.take (i * 2) = cels (xs.take i) := by
  rw [hROW, Array.toList_append, Array.toList_append, List.append_assoc]
  exact List.take_left' htl
 rw [← hG] at hrz
 rw [← hROW] at hrz
 obtain ⟨W1, hW1⟩ : ∃ W1, W1 = w.drew.alloc (.cells ROW 80) := ⟨_, rfl⟩
 rw [← hW1] at hrz
 have hN1 : W1.heap[w.heap.size]? = some (.cells ROW 80 (0, 0)) := by rw [hW1]; exact at_new w.drew _
 have hV1 : W1.heap[vb]? = some (.cells #[.string x.f0, .string x.f1] 80 (0, 0)) := by rw [hW1]; exact xblk_alloc (xblk_drew hv) _
 have hG1 : W1.heap[g]? = some (.cells cur 80 (0, 0)) := by rw [hW1]; exact xblk_alloc (xblk_drew hh) _
 have h2 : (cel x).length = 2 := rfl
 have hdl : (cels (xs.drop i)).length = (n - i) * 2 := by rw [cels_len, List.length_drop, hnn]
 have hcpA : ∀ (W : World), W.heap[w.heap.size]? = W1.heap[w.heap.size]? → W.heap[vb]? = W1.heap[vb]? → ∀ ty dc, (Builtin.copy_ #[66, 66] ty #[.slice (some ⟨w.heap.size, i * 2, none⟩) (n + 1 - i) dc, .slice (some ⟨vb, 0, none⟩) 1 1]).run Try.prog W = .ok (goInt (Nat.min 1 (n + 1 - i))) (W.setCells w.heap.size (i * 2) (cel x)) := fun W hWg hWv ty dc =>
  copy_run W ty w.heap.size (i * 2) (n + 1 - i) dc ⟨vb, 0, none⟩ 1 1 (cel x) (by rw [show Nat.min 1 (n + 1 - i) = 1 by simp only [Nat.min_def]; split <;> omega]; rfl)
   (fun j v hj => by rw [add_plain, blk_cell (hWv.trans hV1)]; simpa [cel] using hj) (fun j hj => by rw [blk_cell (hWg.trans hN1), Array.getElem?_eq_getElem (by omega)]; rfl) (fun j hj => blk_frozen (hWg.trans hN1) _)
   (fun v hv => cels_one [x] v (by rw [cels_cons]; exact List.mem_append_left _ hv))
 obtain ⟨cur1, h3, h4, h5⟩ := setCells_row (cel x) (i * 2) W1 ROW hN1 (by omega)
 have hG2 : (W1.setCells w.heap.size (i * 2) (cel x)).heap[g]? = some (.cells cur 80 (0, 0)) := (setCells_far _ _ g (by omega)).trans hG1
 have hcpB : ∀ (W : World), W.heap[w.heap.size]? = (W1.setCells w.heap.size (i * 2) (cel x)).heap[w.heap.size]? → W.heap[g]? = (W1.setCells w.heap.size (i * 2) (cel x)).heap[g]? → ∀ ty dc sc, (Builtin.copy_ #[66, 66] ty #[.slice (some ⟨w.heap.size, (i + 1) * 2, none⟩) (n + 1 - (i + 1)) dc, .slice (some ⟨g, i * 2, none⟩) (n - i) sc]).run Try.prog W = .ok (goInt (Nat.min (n - i) (n + 1 - (i + 1)))) (W.setCells w.heap.size ((i + 1) * 2) (cels (xs.drop i))) := fun W hWn hWg ty dc sc =>
  copy_run W ty w.heap.size ((i + 1) * 2) (n + 1 - (i + 1)) dc ⟨g, i * 2, none⟩ (n - i) sc (cels (xs.drop i)) (by rw [hdl, show Nat.min (n - i) (n + 1 - (i + 1)) = n - i by simp only [Nat.min_def]; split <;> omega])
   (fun j v hj => by
    have hjl : j < (n - i) * 2 := by have := (List.getElem?_eq_some_iff.1 hj).1; omega
    rw [← cels_drop, ← ht, List.drop_take, List.getElem?_take, if_pos (by omega), List.getElem?_drop] at hj
    rw [add_at, blk_cell (hWg.trans hG2), ← Array.getElem?_toList]
    exact hj)
   (fun j hj => by rw [blk_cell (hWn.trans h3), Array.getElem?_eq_getElem (by omega)]; rfl) (fun j hj => blk_frozen (hWn.trans h3) _) (cels_one _)
 subst hW1
 have HE1 := aM (show ((w.alloc (.cells ROW 80)).drew).heap[w.heap.size]? = (w.drew.alloc (.cells ROW 80)).heap[w.heap.size]? from rfl)
 have HE2 := aM (show ((w.alloc (.cells ROW 80)).drew).heap[vb]? = (w.drew.alloc (.cells ROW 80)).heap[vb]? from rfl)
 have HE3 := aM (show (((w.alloc (.cells ROW 80)).drew.setCells w.heap.size (i * 2) (cel x)).drew).heap[w.heap.size]? = ((w.drew.alloc (.cells ROW 80)).setCells w.heap.size (i * 2) (cel x)).heap[w.heap.size]? from rfl)
 have HE4 := aM (show (((w.alloc (.cells ROW 80)).drew.setCells w.heap.size (i * 2) (cel x)).drew).heap[g]? = ((w.drew.alloc (.cells ROW 80)).setCells w.heap.size (i * 2) (cel x)).heap[g]? from rfl)
 have hz2 : ¬ ((i : Int) = (n : Int)) := by omega
 have hz3 : (c : Int) < (n : Int) + 1 := by omega
 have hb1 : (0 : Int) ≤ (i : Int) + 1 := by omega
 have hin : i ≤ n := by omega
 have htn : ((i : Int) + 1).toNat = i + 1 := by omega
 have hGi : ¬ (G = i) := by omega
 have hGim : ¬ (G = i + 1) := by omega
 have hci : ¬ (c = i) := by omega
 have hb3 : (i : Int) ≤ (n : Int) := by omega
 have hb5 : (i : Int) + 1 ≤ (n : Int) + 1 := by omega
 have hb8 : (i : Int) ≤ (n : Int) + 1 := by omega
 have hw1 : IntKind.i64.wrap ((i : Int) + 1) = (i : Int) + 1 := by rw [IntKind.wrap_i64]; omega
 have hnb : (n : Int) ≤ 1048576 := by omega
 have hib : (i : Int) ≤ 1048576 := by omega
 have hic : (i : Int) ≤ (c : Int) := by omega
 have HF := aM (grow_R w lo i G xs x ROW (by omega) hrs (by omega) hGm hrt hlw)
 rw [← hnn] at HF ⊢
 have hA1 := fun ty dc => hcpA (w.alloc (.cells ROW 80)).drew HE1.out HE2.out ty dc
 have HBB := aM (fun ty dc sc => hcpB (((w.alloc (.cells ROW 80)).drew.setCells w.heap.size (i * 2) (cel x)).drew) HE3.out HE4.out ty dc sc)
 clear hcpA hcpB
 clear hkk hik hold hROW hG hrs hrt hdl htl h2 h3 h4 h5 hG1 hG2 hN1 hV1 hGm hh hcs ht hv hR hnn hlo hcm hi0 hz0 hzs hzb hgw hvw hn hroom hi hlw
 go_enter Try.func71, Try.ntmps71
 go_wp2_with (at_builtin; refine Lib.wpList_append_run _ rfl _ _ _ _ rfl _ _ rfl rfl _ _ (hrz _) ?_)
 go_region_law (refine copy_step (by rfl) (.tmp 50) (.tmp 53) 66 66 rfl (.slice (some ⟨w.heap.size, (i + 1) * 2, none⟩) (n + 1 - (i + 1)) (G - (i + 1))) (.slice (some ⟨g, i * 2, none⟩) (n - i) (c - i)) (by simp [Act.eval, Act.put]) (by simp [Act.eval, Act.put]) (HBB.out _ _ _) ?_)
 go_wp2
 go_ret
 exact ⟨G, rfl, HF.out⟩
set_option maxHeartbeats 2000000 in
set_option maxRecDepth 100000 in
theorem ins_end (lo vb : Nat) (A : Option Addr) (c : Nat) (xs : List Pa) (x : Pa) (w : World) (hR : Kd.R k80 80 w lo (fun _ => True) (.slice A xs.length c) xs) (hv : w.heap[vb]? = some (.cells #[.string x.f0, .string x.f1] 80 (0, 0))) (hn : xs.length ≤ 1048576) (hlw : lo ≤ w.heap.size) :
  Calls Try.prog 71 #[.slice A xs.length c, .int .i64 (xs.length : Int), .slice (some ⟨vb, 0, none⟩) 1 1] w fun e w' => ∃ v', e = .returned v' ∧ Kd.R k80 80 w' lo (fun _ => True) v' (xs ++ [x]) ∧ Below lo w w' := by
 obtain ⟨_, hnc, _⟩ := Kd.R_reads' hR
 have HR := aM hR
 have HLW := aM hlw
 have HRR := aM (show ReadsRow (fun (p : Pa) cs => cs = cel p) (k80).sz w (some ⟨vb, 0, none⟩) 1 [x] from ⟨rfl, by decide, fun _ => ⟨_, rfl, fun j p hj => by
  cases j with
  | zero =>
   obtain rfl := Option.some.inj hj
   refine ⟨cel x, rfl, rfl, fun i u hu => ?_⟩
   rw [add_plain, Nat.zero_mul, Nat.zero_add, blk_cell hv]
   simpa [cel] using hu
  | succ j => cases hj⟩⟩)
 have hnb : (xs.length : Int) ≤ 1048576 := by omega
 have HNB := aM hn
 have hnc2 : (xs.length : Int) ≤ (c : Int) := by omega
 clear hR hlw hv hnc hn
 go_enter Try.func71, Try.ntmps71
 go_wp2_with (at_builtin; go_loud (refine Kd.R_append_rows k80 (Rr := fun p cs => cs = cel p) (w0 := w) lo rfl (.tmp 23) (.tmp 24) 66 80 (.agg #[(.string ⟨#[]⟩), (.string ⟨#[]⟩)]) 32 rfl Try.underlying66 info80 rfl (by decide) (by decide) (.slice A xs.length c) xs [x] (some ⟨vb, 0, none⟩) 1 1 (fun _ => True) (fun _ => False) rfl rfl HR.out HRR.out (fun p cs h => by subst h; exact k80_mkM _ _ _ _) (fun _ h => h.elim) (fun _ _ => trivial) (Below.refl lo w) HLW.out (by have := HNB.out; omega) ?_; intro v1 w1 ho1 hb1 hg1 hat1; have HO1 := aM ho1; have HB1 := aM hb1; clear ho1 hb1 hg1 hat1))
 all_goals
  go_ret
  exact ⟨_, rfl, HO1.out, HB1.out⟩
theorem insert (lo i vb : Nat) (A : Option Addr) (c : Nat) (xs : List Pa) (x : Pa) (w : World) (hR : Kd.R k80 80 w lo (fun _ => True) (.slice A xs.length c) xs) (hi : i ≤ xs.length) (hv : w.heap[vb]? = some (.cells #[.string x.f0, .string x.f1] 80 (0, 0))) (hne : some vb ≠ (Value.slice A xs.length c).ownBlock) (hn : xs.length ≤ 1048576) (hlw : lo ≤ w.heap.size) :
  Calls Try.prog 71 #[.slice A xs.length c, .int .i64 (i : Int), .slice (some ⟨vb, 0, none⟩) 1 1] w fun e w' => ∃ v', e = .returned v' ∧ Kd.R k80 80 w' lo (fun _ => True) v' (xs.take i ++ x :: xs.drop i) ∧ Below lo w w' := by
 by_cases hil : i < xs.length
 ·
  obtain ⟨inner, hin⟩ := Kd.R_own hR
  obtain ⟨g, c2, e2, hgb, hgl⟩ := hin.form (by omega)
  injection e2 with e3 _ e4
  subst e3 e4
  have hvg : vb ≠ g := fun h => hne (by simp [Value.ownBlock, h])
  by_cases hroom : xs.length + 1 ≤ c
  ·
   refine (ins_shift lo g c i vb xs x w hR hil hroom hv hvg hn).mono ?_
   rintro e w' ⟨rfl, rfl⟩
   exact ⟨_, rfl, shift_R w lo g c i xs x hR hi hroom hlw⟩
  ·
   refine (ins_grow lo g c i vb xs x w hR hil (by omega) hv hn hlw).mono ?_
   rintro e w' ⟨G, rfl, h1, h2⟩
   exact ⟨_, rfl, h1, h2⟩
 ·
  obtain rfl : i = xs.length := by omega
  rw [List.take_length, List.drop_length]
  exact ins_end lo vb A c xs x w hR hv hn hlw
/-- The keys behind a put. -/
def putL (l : List KV) (key value : ByteArray) : List KV := if hsk l key = true then l.take (plc l key) ++ (key, value) :: l.drop (plc l key + 1) else l.take (plc l key) ++ (key, value) :: l.drop (plc l key)
/-- What PutKey answers. -/
def ansK (L : List Lb) (key value : ByteArray) : List Lb × Bool :=
 if (ansP L).2 = true ∧ (1 ≤ key.size ∧ key.size ≤ 40) ∧ value.size ≤ 60 ∧ (putL ((ansP L).1.map BuI.kv) key value).length ≤ 60 then (enc (putL ((ansP L).1.map BuI.kv) key value).length 0 (putL ((ansP L).1.map BuI.kv) key value), true) else ([], false)
theorem put1 {W : World} {base g n cap : Nat} {ok : Nat → Prop} {xs : List Pa} (h : Kd.R k80 80 W base ok (.slice (some ⟨g, 0, none⟩) n cap) xs) (i : Nat) (hi : i < n) (v : ByteArray) :
  W.cell? ⟨g, i * 2 + 1, none⟩ = some (.string (rd_T80 xs (i : Int)).f1) ∧ W.frozen? ⟨g, i * 2 + 1, none⟩ = false ∧
  Kd.R k80 80 (W.setCell ⟨g, i * 2 + 1, none⟩ (.string v)) base ok (.slice (some ⟨g, 0, none⟩) n cap) (xs.set i ⟨(rd_T80 xs (i : Int)).f0, v⟩) := by
 obtain ⟨ce, hcl, hM, hcc, hfr⟩ := Kd.R_elem h z80 (i : Int) (by omega) (by omega)
 obtain rfl := k80_openM hM
 have hx : W.cell? ⟨g, (i : Int).toNat * 2 + 1, none⟩ = some (.string (rd_T80 xs (i : Int)).f1) := hcc 1 _ rfl
 have hf : W.frozen? ⟨g, (i : Int).toNat * 2 + 1, none⟩ = false := hfr 1
 have hp := (Kd.R_seg h (i : Int) (by omega) (by omega) (seg := [.string v]) (j := 1) hcl hcc (show 1 + 1 ≤ 2 from by decide) (x' := (⟨(rd_T80 xs (i : Int)).f0, v⟩ : Pa)) (k80_mkM _ _ _ _) (fun _ hk => hk)).1
 rw [Int.toNat_natCast] at hx hf hp
 exact ⟨hx, hf, hp⟩
set_option maxHeartbeats 2000000 in
set_option maxRecDepth 100000 in
theorem put_no1 (L : List Lb) (A : Option Addr) (c : Nat) (key value : ByteArray) (w : World) (hC : Kd.C k71 w A L.length L) (hc1 : L.length ≤ c) (hLL : L.length ≤ 1048576) (hks : key.size ≤ 9223372036854775807) (hvs : value.size ≤ 9223372036854775807) (hok : (ansP L).2 = false) :
  Calls Try.prog 41 #[.agg #[.slice A L.length c], .string key, .string value] w fun e w' => ∃ v0_ : Value, e = .returned (.tuple #[.agg #[v0_], .bool false]) ∧ Kd.R k71 71 w' w.heap.size (fun _ => True) v0_ [] ∧ Below w.heap.size w w' := by
 obtain ⟨wA, hwA⟩ : ∃ wA, wA = w.alloc (.cells #[.slice A L.length c] 29) := ⟨_, rfl⟩
 obtain ⟨wB, hwB⟩ : ∃ wB, wB = wA.alloc (.cells #[.slice none 0 0] 29) := ⟨_, rfl⟩
 have HWA := aM hwA
 have HWB := aM hwB
 have hsA : wA.heap.size = w.heap.size + 1 := by rw [hwA]; exact new_size _ _
 have HSB := aM (show wB.heap.size = w.heap.size + 2 by rw [hwB, new_size, hsA])
 have hBA : Below w.heap.size w wA := by rw [hwA]; exact below_alloc (Below.refl _ _) _
 have HBB := aM (show Below w.heap.size w wB by rw [hwB]; exact below_alloc hBA _)
 have HTB := aM (show wB.heap[w.heap.size]? = some (.cells #[.slice A L.length c] 29 (0, 0)) by rw [hwB]; exact xblk_alloc (by rw [hwA]; exact at_new _ _) _)
 have HRB := aM (show wB.heap[w.heap.size + 1]? = some (.cells #[.slice none 0 0] 29 (0, 0)) by rw [hwB, ← hsA]; exact at_new _ _)
 have ct : ((w.alloc (.cells #[.slice A L.length c] 29)).alloc (.cells #[.slice none 0 0] 29)).cell? ⟨w.heap.size, 0, none⟩ = some (.slice A L.length c) := by rw [← hwA, ← hwB]; exact (blk_cell HTB.out 0).trans rfl
 have HP := aM (Po.calls L A c wB (Kd.C_below hC HBB.out) hc1 hLL)
 have hri := ansP_ri L
 obtain ⟨ps, hps⟩ : ∃ ps, ps = (ansP L).1 := ⟨_, rfl⟩
 rw [← hps] at HP hri
 have HRI := aM hri
 have hpl : (ps.length : Int) ≤ 60 := by have := hri.2.1; omega
 have HTK := aM (fun W => tko key W)
 rw [hok] at HP
 clear hwA hwB hsA hBA hC hc1 hLL hri hps hok
 go_enter Try.func41, Try.ntmps41
 go_upto_region 2 with (go_at_call 49; rw [← HWA.out, ← HWB.out]; go_loud ((with_reducible refine HP.out.mono ?_); rintro e w2 ⟨v2, rfl, ho2, hb2⟩; have HO2 := aM ho2; have HB2 := aM hb2; clear ho2 hb2))
 clear ct
 have HR2 := aM ((HB2.out.block (w.heap.size + 1) (by have := HSB.out; omega)).trans HRB.out)
 have HBw2 := aM (HBB.out.trans (HB2.out.mono (by have := HSB.out; omega)))
 have cr : w2.cell? ⟨w.heap.size + 1, 0, none⟩ = some (.slice none 0 0) := (blk_cell HR2.out 0).trans rfl
 have fr : w2.frozen? ⟨w.heap.size + 1, 0, none⟩ = false := blk_frozen HR2.out 0
 go_wp2_with (fail)
 refine bodyPost_ret (results_ct rfl _ _ (w.heap.size + 1) 29 #[.slice none 0 0] (0, 0) _ rfl (blk_put HR2.out 0 _ rfl) Try.underlying29 rfl (by kernel_rfl)) rfl ?_
 have HBw : Below w.heap.size w w2 := HBw2.out
 exact ⟨_, rfl, Kd.R_nil _ _ _ _ _, HBw.setCell (p := ⟨w.heap.size + 1, 0, none⟩) (by show w.heap.size ≤ w.heap.size + 1; omega) _⟩
set_option maxHeartbeats 2000000 in
set_option maxRecDepth 100000 in
theorem put_no2 (L : List Lb) (A : Option Addr) (c : Nat) (key value : ByteArray) (w : World) (hC : Kd.C k71 w A L.length L) (hc1 : L.length ≤ c) (hLL : L.length ≤ 1048576) (hks : key.size ≤ 9223372036854775807) (hvs : value.size ≤ 9223372036854775807) (hok : (ansP L).2 = true) (hk : ¬ (1 ≤ key.size ∧ key.size ≤ 40)) :
  Calls Try.prog 41 #[.agg #[.slice A L.length c], .string key, .string value] w fun e w' => ∃ v0_ : Value, e = .returned (.tuple #[.agg #[v0_], .bool false]) ∧ Kd.R k71 71 w' w.heap.size (fun _ => True) v0_ [] ∧ Below w.heap.size w w' := by
 obtain ⟨wA, hwA⟩ : ∃ wA, wA = w.alloc (.cells #[.slice A L.length c] 29) := ⟨_, rfl⟩
 obtain ⟨wB, hwB⟩ : ∃ wB, wB = wA.alloc (.cells #[.slice none 0 0] 29) := ⟨_, rfl⟩
 have HWA := aM hwA
 have HWB := aM hwB
 have hsA : wA.heap.size = w.heap.size + 1 := by rw [hwA]; exact new_size _ _
 have HSB := aM (show wB.heap.size = w.heap.size + 2 by rw [hwB, new_size, hsA])
 have hBA : Below w.heap.size w wA := by rw [hwA]; exact below_alloc (Below.refl _ _) _
 have HBB := aM (show Below w.heap.size w wB by rw [hwB]; exact below_alloc hBA _)
 have HTB := aM (show wB.heap[w.heap.size]? = some (.cells #[.slice A L.length c] 29 (0, 0)) by rw [hwB]; exact xblk_alloc (by rw [hwA]; exact at_new _ _) _)
 have HRB := aM (show wB.heap[w.heap.size + 1]? = some (.cells #[.slice none 0 0] 29 (0, 0)) by rw [hwB, ← hsA]; exact at_new _ _)
 have ct : ((w.alloc (.cells #[.slice A L.length c] 29)).alloc (.cells #[.slice none 0 0] 29)).cell? ⟨w.heap.size, 0, none⟩ = some (.slice A L.length c) := by rw [← hwA, ← hwB]; exact (blk_cell HTB.out 0).trans rfl
 have HP := aM (Po.calls L A c wB (Kd.C_below hC HBB.out) hc1 hLL)
 have hri := ansP_ri L
 obtain ⟨ps, hps⟩ : ∃ ps, ps = (ansP L).1 := ⟨_, rfl⟩
 rw [← hps] at HP hri
 have HRI := aM hri
 have hpl : (ps.length : Int) ≤ 60 := by have := hri.2.1; omega
 have HTK := aM (fun W => tko key W)
 rw [hok] at HP
 rw [decide_eq_false hk] at HTK
 clear hk
 clear hwA hwB hsA hBA hC hc1 hLL hri hps hok
 go_enter Try.func41, Try.ntmps41
 go_upto_region 2 with (go_at_call 49; rw [← HWA.out, ← HWB.out]; go_loud ((with_reducible refine HP.out.mono ?_); rintro e w2 ⟨v2, rfl, ho2, hb2⟩; have HO2 := aM ho2; have HB2 := aM hb2; clear ho2 hb2))
 clear ct
 have HR2 := aM ((HB2.out.block (w.heap.size + 1) (by have := HSB.out; omega)).trans HRB.out)
 have HBw2 := aM (HBB.out.trans (HB2.out.mono (by have := HSB.out; omega)))
 have cr : w2.cell? ⟨w.heap.size + 1, 0, none⟩ = some (.slice none 0 0) := (blk_cell HR2.out 0).trans rfl
 have fr : w2.frozen? ⟨w.heap.size + 1, 0, none⟩ = false := blk_frozen HR2.out 0
 go_wp2_with (go_at_call 70; go_loud ((with_reducible refine (HTK.out _).mono ?_); rintro e w3 ⟨rfl, m3, rfl⟩))
 refine bodyPost_ret (results_ct rfl _ _ (w.heap.size + 1) 29 #[.slice none 0 0] (0, 0) _ rfl (blk_put HR2.out 0 _ rfl) Try.underlying29 rfl (by kernel_rfl)) rfl ?_
 have HBw : Below w.heap.size w (w2.drewN m3) := pw_below_drewN HBw2.out _
 exact ⟨_, rfl, Kd.R_nil _ _ _ _ _, HBw.setCell (p := ⟨w.heap.size + 1, 0, none⟩) (by show w.heap.size ≤ w.heap.size + 1; omega) _⟩
set_option maxHeartbeats 2000000 in
set_option maxRecDepth 100000 in
theorem put_no3 (L : List Lb) (A : Option Addr) (c : Nat) (key value : ByteArray) (w : World) (hC : Kd.C k71 w A L.length L) (hc1 : L.length ≤ c) (hLL : L.length ≤ 1048576) (hks : key.size ≤ 9223372036854775807) (hvs : value.size ≤ 9223372036854775807) (hok : (ansP L).2 = true) (hk : 1 ≤ key.size ∧ key.size ≤ 40) (hv : ¬ value.size ≤ 60) :
  Calls Try.prog 41 #[.agg #[.slice A L.length c], .string key, .string value] w fun e w' => ∃ v0_ : Value, e = .returned (.tuple #[.agg #[v0_], .bool false]) ∧ Kd.R k71 71 w' w.heap.size (fun _ => True) v0_ [] ∧ Below w.heap.size w w' := by
 obtain ⟨wA, hwA⟩ : ∃ wA, wA = w.alloc (.cells #[.slice A L.length c] 29) := ⟨_, rfl⟩
 obtain ⟨wB, hwB⟩ : ∃ wB, wB = wA.alloc (.cells #[.slice none 0 0] 29) := ⟨_, rfl⟩
 have HWA := aM hwA
 have HWB := aM hwB
 have hsA : wA.heap.size = w.heap.size + 1 := by rw [hwA]; exact new_size _ _
 have HSB := aM (show wB.heap.size = w.heap.size + 2 by rw [hwB, new_size, hsA])
 have hBA : Below w.heap.size w wA := by rw [hwA]; exact below_alloc (Below.refl _ _) _
 have HBB := aM (show Below w.heap.size w wB by rw [hwB]; exact below_alloc hBA _)
 have HTB := aM (show wB.heap[w.heap.size]? = some (.cells #[.slice A L.length c] 29 (0, 0)) by rw [hwB]; exact xblk_alloc (by rw [hwA]; exact at_new _ _) _)
 have HRB := aM (show wB.heap[w.heap.size + 1]? = some (.cells #[.slice none 0 0] 29 (0, 0)) by rw [hwB, ← hsA]; exact at_new _ _)
 have ct : ((w.alloc (.cells #[.slice A L.length c] 29)).alloc (.cells #[.slice none 0 0] 29)).cell? ⟨w.heap.size, 0, none⟩ = some (.slice A L.length c) := by rw [← hwA, ← hwB]; exact (blk_cell HTB.out 0).trans rfl
 have HP := aM (Po.calls L A c wB (Kd.C_below hC HBB.out) hc1 hLL)
 have hri := ansP_ri L
 obtain ⟨ps, hps⟩ : ∃ ps, ps = (ansP L).1 := ⟨_, rfl⟩
 rw [← hps] at HP hri
 have HRI := aM hri
 have hpl : (ps.length : Int) ≤ 60 := by have := hri.2.1; omega
 have HTK := aM (fun W => tko key W)
 rw [hok] at HP
 rw [decide_eq_true hk] at HTK
 have hv2 : (60 : Int) < (value.size : Int) := by omega
 clear hk hv
 clear hwA hwB hsA hBA hC hc1 hLL hri hps hok
 go_enter Try.func41, Try.ntmps41
 go_upto_region 2 with (go_at_call 49; rw [← HWA.out, ← HWB.out]; go_loud ((with_reducible refine HP.out.mono ?_); rintro e w2 ⟨v2, rfl, ho2, hb2⟩; have HO2 := aM ho2; have HB2 := aM hb2; clear ho2 hb2))
 clear ct
 have HR2 := aM ((HB2.out.block (w.heap.size + 1) (by have := HSB.out; omega)).trans HRB.out)
 have HBw2 := aM (HBB.out.trans (HB2.out.mono (by have := HSB.out; omega)))
 have cr : w2.cell? ⟨w.heap.size + 1, 0, none⟩ = some (.slice none 0 0) := (blk_cell HR2.out 0).trans rfl
 have fr : w2.frozen? ⟨w.heap.size + 1, 0, none⟩ = false := blk_frozen HR2.out 0
 go_wp2_with (go_at_call 70; go_loud ((with_reducible refine (HTK.out _).mono ?_); rintro e w3 ⟨rfl, m3, rfl⟩))
 refine bodyPost_ret (results_ct rfl _ _ (w.heap.size + 1) 29 #[.slice none 0 0] (0, 0) _ rfl (blk_put HR2.out 0 _ rfl) Try.underlying29 rfl (by kernel_rfl)) rfl ?_
 have HBw : Below w.heap.size w (w2.drewN m3) := pw_below_drewN HBw2.out _
 exact ⟨_, rfl, Kd.R_nil _ _ _ _ _, HBw.setCell (p := ⟨w.heap.size + 1, 0, none⟩) (by show w.heap.size ≤ w.heap.size + 1; omega) _⟩
set_option maxHeartbeats 2000000 in
set_option maxRecDepth 100000 in
theorem put_full (L : List Lb) (A : Option Addr) (c : Nat) (key value : ByteArray) (w : World) (hC : Kd.C k71 w A L.length L) (hc1 : L.length ≤ c) (hLL : L.length ≤ 1048576) (hks : key.size ≤ 9223372036854775807) (hvs : value.size ≤ 9223372036854775807) (hok : (ansP L).2 = true) (hk : 1 ≤ key.size ∧ key.size ≤ 40) (hv : value.size ≤ 60) (hth : hsk ((ansP L).1.map BuI.kv) key = false) (hfl : (ansP L).1.length = 60) :
  Calls Try.prog 41 #[.agg #[.slice A L.length c], .string key, .string value] w fun e w' => ∃ v0_ : Value, e = .returned (.tuple #[.agg #[v0_], .bool false]) ∧ Kd.R k71 71 w' w.heap.size (fun _ => True) v0_ [] ∧ Below w.heap.size w w' := by
 obtain ⟨wA, hwA⟩ : ∃ wA, wA = w.alloc (.cells #[.slice A L.length c] 29) := ⟨_, rfl⟩
 obtain ⟨wB, hwB⟩ : ∃ wB, wB = wA.alloc (.cells #[.slice none 0 0] 29) := ⟨_, rfl⟩
 have HWA := aM hwA
 have HWB := aM hwB
 have hsA : wA.heap.size = w.heap.size + 1 := by rw [hwA]; exact new_size _ _
 have HSB := aM (show wB.heap.size = w.heap.size + 2 by rw [hwB, new_size, hsA])
 have hBA : Below w.heap.size w wA := by rw [hwA]; exact below_alloc (Below.refl _ _) _
 have HBB := aM (show Below w.heap.size w wB by rw [hwB]; exact below_alloc hBA _)
 have HTB := aM (show wB.heap[w.heap.size]? = some (.cells #[.slice A L.length c] 29 (0, 0)) by rw [hwB]; exact xblk_alloc (by rw [hwA]; exact at_new _ _) _)
 have HRB := aM (show wB.heap[w.heap.size + 1]? = some (.cells #[.slice none 0 0] 29 (0, 0)) by rw [hwB, ← hsA]; exact at_new _ _)
 have ct : ((w.alloc (.cells #[.slice A L.length c] 29)).alloc (.cells #[.slice none 0 0] 29)).cell? ⟨w.heap.size, 0, none⟩ = some (.slice A L.length c) := by rw [← hwA, ← hwB]; exact (blk_cell HTB.out 0).trans rfl
 have HP := aM (Po.calls L A c wB (Kd.C_below hC HBB.out) hc1 hLL)
 have hri := ansP_ri L
 obtain ⟨ps, hps⟩ : ∃ ps, ps = (ansP L).1 := ⟨_, rfl⟩
 rw [← hps] at HP hri
 have HRI := aM hri
 have hpl : (ps.length : Int) ≤ 60 := by have := hri.2.1; omega
 have HTK := aM (fun W => tko key W)
 rw [hok] at HP
 rw [decide_eq_true hk] at HTK
 have hv2 : ¬ ((60 : Int) < (value.size : Int)) := by omega
 rw [← hps] at hth hfl
 have HKV := aM (⟨hk, hv⟩ : (1 ≤ key.size ∧ key.size ≤ 40) ∧ value.size ≤ 60)
 have HTH := aM hth
 have hfl2 : (ps.length : Int) = 60 := by omega
 clear hwA hwB hsA hBA hC hc1 hLL hri hps hok hk hv hth hfl
 go_enter Try.func41, Try.ntmps41
 go_upto_region 2 with (go_at_call 49; rw [← HWA.out, ← HWB.out]; go_loud ((with_reducible refine HP.out.mono ?_); rintro e w2 ⟨v2, rfl, ho2, hb2⟩; have HO2 := aM ho2; have HB2 := aM hb2; clear ho2 hb2))
 clear ct
 obtain ⟨A2, c2, e2⟩ := Kd.R_slice HO2.out
 subst e2
 have HB2b := aM (fun m : Nat => (pw_below_drewN (Below.refl w2.heap.size w2) m : Below w2.heap.size w2 (w2.drewN m)))
 have HL3 := aM (fun m : Nat => placeOf ps A2 c2 key (w2.drewN m) (Kd.C_below (Kd.reads1 HO2.out) (HB2b.out m)) (by omega) HRI.out.1)
 rw [HTH.out] at HL3
 go_upto_region 4 with (go_at_call 70; go_loud ((with_reducible refine (HTK.out _).mono ?_); rintro e w3 ⟨rfl, m3, rfl⟩))
 obtain ⟨w3, hw3⟩ : ∃ w3, w3 = w2.drewN m3 := ⟨_, rfl⟩
 rw [← hw3]
 have HB3 := aM (show Below w2.heap.size w2 w3 by rw [hw3]; exact HB2b.out m3)
 have HL4 := HL3.out m3
 rw [← hw3] at HL4
 have HL4 := aM HL4
 clear hw3
 go_upto_region 6 with (go_at_call 61; go_loud ((with_reducible refine HL4.out.mono ?_); rintro e w4 ⟨rfl, hb4⟩; have HB4 := aM hb4; clear hb4))
 have HB24 := aM (HB3.out.trans (HB4.out.mono (HB3.out.size)))
 have HR4 := aM ((HB24.out.block (w.heap.size + 1) (by have := HB2.out.size; have := HSB.out; omega)).trans ((HB2.out.block (w.heap.size + 1) (by have := HSB.out; omega)).trans HRB.out))
 have HO4 := aM (Kd.R_below HO2.out HB24.out)
 have HS4 := aM (show wB.heap.size ≤ w4.heap.size by have := HB2.out.size; have := HB24.out.size; omega)
 have HBw4 := aM ((HBB.out.trans (HB2.out.mono (by have := HSB.out; omega))).trans (HB24.out.mono (by have := HB2.out.size; have := HSB.out; omega)))
 have cr : w4.cell? ⟨w.heap.size + 1, 0, none⟩ = some (.slice none 0 0) := (blk_cell HR4.out 0).trans rfl
 have fr : w4.frozen? ⟨w.heap.size + 1, 0, none⟩ = false := blk_frozen HR4.out 0
 go_wp2
 refine bodyPost_ret (results_ct rfl _ _ (w.heap.size + 1) 29 #[.slice none 0 0] (0, 0) _ rfl (blk_put HR4.out 0 _ rfl) Try.underlying29 rfl (by kernel_rfl)) rfl ?_
 have HBw : Below w.heap.size w w4 := HBw4.out
 exact ⟨_, rfl, Kd.R_nil _ _ _ _ _, HBw.setCell (p := ⟨w.heap.size + 1, 0, none⟩) (by show w.heap.size ≤ w.heap.size + 1; omega) _⟩
set_option maxHeartbeats 2000000 in
set_option maxRecDepth 100000 in
theorem put_set (L : List Lb) (A : Option Addr) (c : Nat) (key value : ByteArray) (w : World) (hC : Kd.C k71 w A L.length L) (hc1 : L.length ≤ c) (hLL : L.length ≤ 1048576) (hks : key.size ≤ 9223372036854775807) (hvs : value.size ≤ 9223372036854775807) (hok : (ansP L).2 = true) (hk : 1 ≤ key.size ∧ key.size ≤ 40) (hv : value.size ≤ 60) (hth : hsk ((ansP L).1.map BuI.kv) key = true) :
  Calls Try.prog 41 #[.agg #[.slice A L.length c], .string key, .string value] w fun e w' => ∃ v0_ : Value, e = .returned (.tuple #[.agg #[v0_], .bool true]) ∧ Kd.R k71 71 w' w.heap.size (fun _ => True) v0_ (enc (putL ((ansP L).1.map BuI.kv) key value).length 0 (putL ((ansP L).1.map BuI.kv) key value)) ∧ Below w.heap.size w w' := by
 obtain ⟨wA, hwA⟩ : ∃ wA, wA = w.alloc (.cells #[.slice A L.length c] 29) := ⟨_, rfl⟩
 obtain ⟨wB, hwB⟩ : ∃ wB, wB = wA.alloc (.cells #[.slice none 0 0] 29) := ⟨_, rfl⟩
 have HWA := aM hwA
 have HWB := aM hwB
 have hsA : wA.heap.size = w.heap.size + 1 := by rw [hwA]; exact new_size _ _
 have HSB := aM (show wB.heap.size = w.heap.size + 2 by rw [hwB, new_size, hsA])
 have hBA : Below w.heap.size w wA := by rw [hwA]; exact below_alloc (Below.refl _ _) _
 have HBB := aM (show Below w.heap.size w wB by rw [hwB]; exact below_alloc hBA _)
 have HTB := aM (show wB.heap[w.heap.size]? = some (.cells #[.slice A L.length c] 29 (0, 0)) by rw [hwB]; exact xblk_alloc (by rw [hwA]; exact at_new _ _) _)
 have HRB := aM (show wB.heap[w.heap.size + 1]? = some (.cells #[.slice none 0 0] 29 (0, 0)) by rw [hwB, ← hsA]; exact at_new _ _)
 have ct : ((w.alloc (.cells #[.slice A L.length c] 29)).alloc (.cells #[.slice none 0 0] 29)).cell? ⟨w.heap.size, 0, none⟩ = some (.slice A L.length c) := by rw [← hwA, ← hwB]; exact (blk_cell HTB.out 0).trans rfl
 have HP := aM (Po.calls L A c wB (Kd.C_below hC HBB.out) hc1 hLL)
 have hri := ansP_ri L
 obtain ⟨ps, hps⟩ : ∃ ps, ps = (ansP L).1 := ⟨_, rfl⟩
 rw [← hps] at HP hri
 have HRI := aM hri
 have hpl : (ps.length : Int) ≤ 60 := by have := hri.2.1; omega
 have HTK := aM (fun W => tko key W)
 rw [hok] at HP
 rw [decide_eq_true hk] at HTK
 have hv2 : ¬ ((60 : Int) < (value.size : Int)) := by omega
 rw [← hps] at hth ⊢
 have HKV := aM (⟨hk, hv⟩ : (1 ≤ key.size ∧ key.size ≤ 40) ∧ value.size ≤ 60)
 have HTH := aM hth
 have hplt := hsk_lt hth
 rw [List.length_map] at hplt
 have HPT := aM hplt
 obtain ⟨qs, hqs⟩ : ∃ qs : List Pa, qs = ps.take (plc (ps.map BuI.kv) key) ++ ⟨key, value⟩ :: ps.drop (plc (ps.map BuI.kv) key + 1) := ⟨_, rfl⟩
 have hqk : qs.map BuI.kv = putL (ps.map BuI.kv) key value := by rw [hqs, putL, if_pos hth]; simp [List.map_take, List.map_drop, BuI.kv]
 rw [← hqk]
 obtain ⟨zs, hzs⟩ : ∃ zs, zs = enc (qs.map BuI.kv).length 0 (qs.map BuI.kv) := ⟨_, rfl⟩
 rw [← hzs]
 have HQ := aM hqs
 have HZ := aM (show zs = enc qs.length 0 (qs.map BuI.kv) by rw [hzs, List.length_map])
 have hpli := plc_le (ps.map BuI.kv) key
 rw [List.length_map] at hpli
 have HPI := aM hpli
 have hpi : ((plc (ps.map BuI.kv) key : Nat) : Int) ≤ 60 := by omega
 have HQS := aM (show ∀ x ∈ qs, x.f0.size ≤ 40 ∧ x.f1.size ≤ 60 from fun x hx => by
  rw [hqs] at hx
  rcases List.mem_append.1 hx with hx | hx
  ·
   exact hri.2.2 x (List.mem_of_mem_take hx)
  ·
   rcases List.mem_cons.1 hx with rfl | hx
   ·
    exact ⟨hk.2, hv⟩
   ·
    exact hri.2.2 x (List.mem_of_mem_drop hx))
 have hky : (rd_T80 ps ((plc (ps.map BuI.kv) key : Nat) : Int)).f0 = key := by
  rw [← (BuI.kv_key ps _ hplt).1]
  unfold hsk at hth
  rw [Bool.and_eq_true] at hth
  exact of_decide_eq_true hth.2
 have HQ2 := aM (show qs = ps.set (plc (ps.map BuI.kv) key) ⟨(rd_T80 ps ((plc (ps.map BuI.kv) key : Nat) : Int)).f0, value⟩ by rw [hqs, hky, List.set_eq_take_append_cons_drop, if_pos hplt])
 have HQL := aM (show qs.length = ps.length by rw [HQ2.out, List.length_set])
 clear hwA hwB hsA hBA hC hc1 hLL hri hps hok hk hv hth hqs hqk hzs hplt hpli hky
 go_enter Try.func41, Try.ntmps41
 go_upto_region 2 with (go_at_call 49; rw [← HWA.out, ← HWB.out]; go_loud ((with_reducible refine HP.out.mono ?_); rintro e w2 ⟨v2, rfl, ho2, hb2⟩; have HO2 := aM ho2; have HB2 := aM hb2; clear ho2 hb2))
 clear ct
 obtain ⟨inner, hin⟩ := Kd.R_own HO2.out
 obtain ⟨g, c2, e2, hgb, hgl⟩ := hin.form (by have := HPT.out; omega)
 subst e2
 have HGB := aM hgb
 have HB2b := aM (fun m : Nat => (pw_below_drewN (Below.refl w2.heap.size w2) m : Below w2.heap.size w2 (w2.drewN m)))
 have HL3 := aM (fun m : Nat => placeOf ps (some ⟨g, 0, none⟩) c2 key (w2.drewN m) (Kd.C_below (Kd.reads1 HO2.out) (HB2b.out m)) (by omega) HRI.out.1)
 rw [HTH.out] at HL3
 generalize plc (ps.map BuI.kv) key = k at *
 clear hin hgb hgl
 go_upto_region 4 with (go_at_call 70; go_loud ((with_reducible refine (HTK.out _).mono ?_); rintro e w3 ⟨rfl, m3, rfl⟩))
 obtain ⟨w3, hw3⟩ : ∃ w3, w3 = w2.drewN m3 := ⟨_, rfl⟩
 rw [← hw3]
 have HB3 := aM (show Below w2.heap.size w2 w3 by rw [hw3]; exact HB2b.out m3)
 have HL4 := HL3.out m3
 rw [← hw3] at HL4
 have HL4 := aM HL4
 clear hw3
 go_upto_region 6 with (go_at_call 61; go_loud ((with_reducible refine HL4.out.mono ?_); rintro e w4 ⟨rfl, hb4⟩; have HB4 := aM hb4; clear hb4))
 have HB24 := aM (HB3.out.trans (HB4.out.mono (HB3.out.size)))
 have HR4 := aM ((HB24.out.block (w.heap.size + 1) (by have := HB2.out.size; have := HSB.out; omega)).trans ((HB2.out.block (w.heap.size + 1) (by have := HSB.out; omega)).trans HRB.out))
 have HO4 := aM (Kd.R_below HO2.out HB24.out)
 have HS4 := aM (show wB.heap.size ≤ w4.heap.size by have := HB2.out.size; have := HB24.out.size; omega)
 have HBw4 := aM ((HBB.out.trans (HB2.out.mono (by have := HSB.out; omega))).trans (HB24.out.mono (by have := HB2.out.size; have := HSB.out; omega)))
 obtain ⟨q1, q2, q3⟩ := put1 HO4.out k HPT.out value
 have HO5 := aM q3
 rw [← HQ2.out] at HO5
 have hkn : (k : Int) < (ps.length : Int) := by have := HPT.out; omega
 obtain ⟨w5, hw5⟩ : ∃ w5, w5 = w4.setCell ⟨g, k * 2 + 1, none⟩ (.string value) := ⟨_, rfl⟩
 rw [← hw5] at HO5
 have HW5 := aM hw5
 have HB5 := aM (show Below wB.heap.size w4 w5 by rw [hw5]; exact (Below.refl _ _).setCell (p := ⟨g, k * 2 + 1, none⟩) HGB.out _)
 have HS5 := aM (show wB.heap.size ≤ w5.heap.size by rw [hw5]; simpa [World.setCell] using HS4.out)
 have HR5 := aM ((HB5.out.block (w.heap.size + 1) (by have := HSB.out; omega)).trans HR4.out)
 have HBw5 := aM (HBw4.out.trans (HB5.out.mono (by have := HSB.out; omega)))
 have hro := Kd.R_reads' HO5.out
 have HT6 := aM (Tr.treapI qs (some ⟨g, 0, none⟩) c2 w5 hro.2.2 (by omega) (by have := HQL.out; omega) (keys_ok HQS.out))
 rw [← HZ.out, HQL.out] at HT6
 clear hw5 q3 hro
 go_upto_region 10 with (fail)
 rw [← HW5.out]
 go_wp2_with (go_at_call 57; go_loud ((with_reducible refine HT6.out.mono ?_); rintro e w7 ⟨v7, rfl, ho7, hb7⟩; (try rw [← HZ.out] at ho7); obtain ⟨A7, c7, e7⟩ := Kd.R_slice ho7; subst e7; have HO7 := aM ho7; have HB7 := aM hb7; have HR7 := aM ((hb7.block (w.heap.size + 1) (by have := HS5.out; have := HSB.out; omega)).trans HR5.out); have cr : w7.cell? ⟨w.heap.size + 1, 0, none⟩ = some (.slice none 0 0) := (blk_cell HR7.out 0).trans rfl; have fr : w7.frozen? ⟨w.heap.size + 1, 0, none⟩ = false := blk_frozen HR7.out 0; clear ho7 hb7))
 refine bodyPost_ret (results_ct rfl _ _ (w.heap.size + 1) 29 #[.slice A7 zs.length c7] (0, 0) _ rfl (blk_put HR7.out 0 _ rfl) Try.underlying29 rfl (by kernel_rfl)) rfl ?_
 have hs5 : w.heap.size + 2 ≤ w5.heap.size := by have := HS5.out; have := HSB.out; omega
 have HBw := HBw5.out.trans (HB7.out.mono (by omega))
 refine ⟨_, rfl, ?_, HBw.setCell (p := ⟨w.heap.size + 1, 0, none⟩) (by show w.heap.size ≤ w.heap.size + 1; omega) _⟩
 have h1 := Kd.R_far (p := ⟨w.heap.size + 1, 0, none⟩) (Kd.R_bound HO7.out) (fun k hk => by have h1 := hk.2.1; show k ≠ w.heap.size + 1; omega) (.slice A7 zs.length c7)
 exact Kd.R_mono (Kd.R_lower h1 (by omega)) (fun _ _ => trivial)
set_option maxHeartbeats 2000000 in
set_option maxRecDepth 100000 in
theorem put_ins (L : List Lb) (A : Option Addr) (c : Nat) (key value : ByteArray) (w : World) (hC : Kd.C k71 w A L.length L) (hc1 : L.length ≤ c) (hLL : L.length ≤ 1048576) (hks : key.size ≤ 9223372036854775807) (hvs : value.size ≤ 9223372036854775807) (hok : (ansP L).2 = true) (hk : 1 ≤ key.size ∧ key.size ≤ 40) (hv : value.size ≤ 60) (hth : hsk ((ansP L).1.map BuI.kv) key = false) (hfl : ¬ (ansP L).1.length = 60) :
  Calls Try.prog 41 #[.agg #[.slice A L.length c], .string key, .string value] w fun e w' => ∃ v0_ : Value, e = .returned (.tuple #[.agg #[v0_], .bool true]) ∧ Kd.R k71 71 w' w.heap.size (fun _ => True) v0_ (enc (putL ((ansP L).1.map BuI.kv) key value).length 0 (putL ((ansP L).1.map BuI.kv) key value)) ∧ Below w.heap.size w w' := by
 obtain ⟨wA, hwA⟩ : ∃ wA, wA = w.alloc (.cells #[.slice A L.length c] 29) := ⟨_, rfl⟩
 obtain ⟨wB, hwB⟩ : ∃ wB, wB = wA.alloc (.cells #[.slice none 0 0] 29) := ⟨_, rfl⟩
 have HWA := aM hwA
 have HWB := aM hwB
 have hsA : wA.heap.size = w.heap.size + 1 := by rw [hwA]; exact new_size _ _
 have HSB := aM (show wB.heap.size = w.heap.size + 2 by rw [hwB, new_size, hsA])
 have hBA : Below w.heap.size w wA := by rw [hwA]; exact below_alloc (Below.refl _ _) _
 have HBB := aM (show Below w.heap.size w wB by rw [hwB]; exact below_alloc hBA _)
 have HTB := aM (show wB.heap[w.heap.size]? = some (.cells #[.slice A L.length c] 29 (0, 0)) by rw [hwB]; exact xblk_alloc (by rw [hwA]; exact at_new _ _) _)
 have HRB := aM (show wB.heap[w.heap.size + 1]? = some (.cells #[.slice none 0 0] 29 (0, 0)) by rw [hwB, ← hsA]; exact at_new _ _)
 have ct : ((w.alloc (.cells #[.slice A L.length c] 29)).alloc (.cells #[.slice none 0 0] 29)).cell? ⟨w.heap.size, 0, none⟩ = some (.slice A L.length c) := by rw [← hwA, ← hwB]; exact (blk_cell HTB.out 0).trans rfl
 have HP := aM (Po.calls L A c wB (Kd.C_below hC HBB.out) hc1 hLL)
 have hri := ansP_ri L
 obtain ⟨ps, hps⟩ : ∃ ps, ps = (ansP L).1 := ⟨_, rfl⟩
 rw [← hps] at HP hri
 have HRI := aM hri
 have hpl : (ps.length : Int) ≤ 60 := by have := hri.2.1; omega
 have HTK := aM (fun W => tko key W)
 rw [hok] at HP
 rw [decide_eq_true hk] at HTK
 have hv2 : ¬ ((60 : Int) < (value.size : Int)) := by omega
 rw [← hps] at hth hfl ⊢
 have HKV := aM (⟨hk, hv⟩ : (1 ≤ key.size ∧ key.size ≤ 40) ∧ value.size ≤ 60)
 have HTH := aM hth
 obtain ⟨qs, hqs⟩ : ∃ qs : List Pa, qs = ps.take (plc (ps.map BuI.kv) key) ++ ⟨key, value⟩ :: ps.drop (plc (ps.map BuI.kv) key) := ⟨_, rfl⟩
 have hqk : qs.map BuI.kv = putL (ps.map BuI.kv) key value := by rw [hqs, putL, if_neg (by rw [hth]; decide)]; simp [List.map_take, List.map_drop, BuI.kv]
 rw [← hqk]
 obtain ⟨zs, hzs⟩ : ∃ zs, zs = enc (qs.map BuI.kv).length 0 (qs.map BuI.kv) := ⟨_, rfl⟩
 rw [← hzs]
 have HQ := aM hqs
 have HZ := aM (show zs = enc qs.length 0 (qs.map BuI.kv) by rw [hzs, List.length_map])
 have hpli := plc_le (ps.map BuI.kv) key
 rw [List.length_map] at hpli
 have HPI := aM hpli
 have hpi : ((plc (ps.map BuI.kv) key : Nat) : Int) ≤ 60 := by omega
 have HQS := aM (show ∀ x ∈ qs, x.f0.size ≤ 40 ∧ x.f1.size ≤ 60 from fun x hx => by
  rw [hqs] at hx
  rcases List.mem_append.1 hx with hx | hx
  ·
   exact hri.2.2 x (List.mem_of_mem_take hx)
  ·
   rcases List.mem_cons.1 hx with rfl | hx
   ·
    exact ⟨hk.2, hv⟩
   ·
    exact hri.2.2 x (List.mem_of_mem_drop hx))
 have hfl2 : ¬ (ps.length : Int) = 60 := by omega
 have HQL := aM (show qs.length = ps.length + 1 by rw [hqs, List.length_append, List.length_take, List.length_cons, List.length_drop]; omega)
 clear hwA hwB hsA hBA hC hc1 hLL hri hps hok hk hv hth hqs hqk hzs hpli hfl
 go_enter Try.func41, Try.ntmps41
 go_upto_region 2 with (go_at_call 49; rw [← HWA.out, ← HWB.out]; go_loud ((with_reducible refine HP.out.mono ?_); rintro e w2 ⟨v2, rfl, ho2, hb2⟩; have HO2 := aM ho2; have HB2 := aM hb2; clear ho2 hb2))
 clear ct
 obtain ⟨A2, c2, e2⟩ := Kd.R_slice HO2.out
 subst e2
 have HB2b := aM (fun m : Nat => (pw_below_drewN (Below.refl w2.heap.size w2) m : Below w2.heap.size w2 (w2.drewN m)))
 have HL3 := aM (fun m : Nat => placeOf ps A2 c2 key (w2.drewN m) (Kd.C_below (Kd.reads1 HO2.out) (HB2b.out m)) (by omega) HRI.out.1)
 rw [HTH.out] at HL3
 generalize plc (ps.map BuI.kv) key = k at *
 go_upto_region 4 with (go_at_call 70; go_loud ((with_reducible refine (HTK.out _).mono ?_); rintro e w3 ⟨rfl, m3, rfl⟩))
 obtain ⟨w3, hw3⟩ : ∃ w3, w3 = w2.drewN m3 := ⟨_, rfl⟩
 rw [← hw3]
 have HB3 := aM (show Below w2.heap.size w2 w3 by rw [hw3]; exact HB2b.out m3)
 have HL4 := HL3.out m3
 rw [← hw3] at HL4
 have HL4 := aM HL4
 clear hw3
 go_upto_region 6 with (go_at_call 61; go_loud ((with_reducible refine HL4.out.mono ?_); rintro e w4 ⟨rfl, hb4⟩; have HB4 := aM hb4; clear hb4))
 have HB24 := aM (HB3.out.trans (HB4.out.mono (HB3.out.size)))
 have HR4 := aM ((HB24.out.block (w.heap.size + 1) (by have := HB2.out.size; have := HSB.out; omega)).trans ((HB2.out.block (w.heap.size + 1) (by have := HSB.out; omega)).trans HRB.out))
 have HO4 := aM (Kd.R_below HO2.out HB24.out)
 have HS4 := aM (show wB.heap.size ≤ w4.heap.size by have := HB2.out.size; have := HB24.out.size; omega)
 have HBw4 := aM ((HBB.out.trans (HB2.out.mono (by have := HSB.out; omega))).trans (HB24.out.mono (by have := HB2.out.size; have := HSB.out; omega)))
 obtain ⟨w4b, hw4b⟩ : ∃ w4b, w4b = w4.alloc (.cells #[.string key, .string value] 80) := ⟨_, rfl⟩
 have HW4 := aM hw4b
 have HB4b := aM (show Below w4.heap.size w4 w4b by rw [hw4b]; exact below_alloc (Below.refl _ _) _)
 have HI := aM (insert wB.heap.size k w4.heap.size A2 c2 ps ⟨key, value⟩ w4b (Kd.R_below HO4.out HB4b.out) HPI.out (by rw [hw4b]; exact at_new _ _) (by have h1 := Kd.R_bound HO4.out; intro hc; have h2 := (h1.1 _ hc.symm).2.2.1; omega) (by omega) (by have := HB4b.out.size; have := HS4.out; omega))
 rw [← HQ.out] at HI
 clear hw4b
 go_upto_region 10 with (go_at_call 71; rw [← HW4.out]; go_loud ((with_reducible refine HI.out.mono ?_); rintro e w5 ⟨v5, rfl, ho5, hb5⟩; obtain ⟨A5, c5, e5⟩ := Kd.R_slice ho5; subst e5; have HO5 := aM ho5; have HB5 := aM hb5; clear ho5 hb5))
 have HS5 := aM (show wB.heap.size ≤ w5.heap.size by have := HB5.out.size; have := HB4b.out.size; have := HS4.out; omega)
 have HR5 := aM ((HB5.out.block (w.heap.size + 1) (by have := HSB.out; omega)).trans ((HB4b.out.block (w.heap.size + 1) (by have := HS4.out; have := HSB.out; omega)).trans HR4.out))
 have HBw5 := aM ((HBw4.out.trans (HB4b.out.mono (by have := HS4.out; have := HSB.out; omega))).trans (HB5.out.mono (by have := HSB.out; omega)))
 have HT6 := aM (Tr.treapI qs A5 c5 w5 (Kd.reads1 HO5.out) (Kd.reads2 HO5.out) (by have := HQL.out; omega) (keys_ok HQS.out))
 go_wp2_with (go_at_call 57; go_loud ((with_reducible refine HT6.out.mono ?_); rintro e w7 ⟨v7, rfl, ho7, hb7⟩; (try rw [← HZ.out] at ho7); obtain ⟨A7, c7, e7⟩ := Kd.R_slice ho7; subst e7; have HO7 := aM ho7; have HB7 := aM hb7; have HR7 := aM ((hb7.block (w.heap.size + 1) (by have := HS5.out; have := HSB.out; omega)).trans HR5.out); have cr : w7.cell? ⟨w.heap.size + 1, 0, none⟩ = some (.slice none 0 0) := (blk_cell HR7.out 0).trans rfl; have fr : w7.frozen? ⟨w.heap.size + 1, 0, none⟩ = false := blk_frozen HR7.out 0; clear ho7 hb7))
 refine bodyPost_ret (results_ct rfl _ _ (w.heap.size + 1) 29 #[.slice A7 zs.length c7] (0, 0) _ rfl (blk_put HR7.out 0 _ rfl) Try.underlying29 rfl (by kernel_rfl)) rfl ?_
 have hs5 : w.heap.size + 2 ≤ w5.heap.size := by have := HS5.out; have := HSB.out; omega
 have HBw := HBw5.out.trans (HB7.out.mono (by omega))
 refine ⟨_, rfl, ?_, HBw.setCell (p := ⟨w.heap.size + 1, 0, none⟩) (by show w.heap.size ≤ w.heap.size + 1; omega) _⟩
 have h1 := Kd.R_far (p := ⟨w.heap.size + 1, 0, none⟩) (Kd.R_bound HO7.out) (fun k hk => by have h1 := hk.2.1; show k ≠ w.heap.size + 1; omega) (.slice A7 zs.length c7)
 exact Kd.R_mono (Kd.R_lower h1 (by omega)) (fun _ _ => trivial)
theorem putL_len (l : List KV) (key value : ByteArray) : (putL l key value).length = if hsk l key = true then l.length else l.length + 1 := by
 have hp := plc_le l key
 unfold putL
 split
 ·
  rename_i h
  have := hsk_lt h
  rw [List.length_append, List.length_take, List.length_cons, List.length_drop]
  omega
 ·
  rw [List.length_append, List.length_take, List.length_cons, List.length_drop]
  omega
theorem putKey (L : List Lb) (A : Option Addr) (c : Nat) (key value : ByteArray) (w : World) (hC : Kd.C k71 w A L.length L) (hc1 : L.length ≤ c) (hLL : L.length ≤ 1048576) (hks : key.size ≤ 9223372036854775807) (hvs : value.size ≤ 9223372036854775807) :
  Calls Try.prog 41 #[.agg #[.slice A L.length c], .string key, .string value] w fun e w' => ∃ v0_ : Value, e = .returned (.tuple #[.agg #[v0_], .bool (ansK L key value).2]) ∧ Kd.R k71 71 w' w.heap.size (fun _ => True) v0_ (ansK L key value).1 ∧ Below w.heap.size w w' := by
 have hpl := putL_len ((ansP L).1.map BuI.kv) key value
 have h60 := (ansP_ri L).2.1
 rw [List.length_map] at hpl
 unfold ansK
 cases hok : (ansP L).2 with
 | false =>
  rw [if_neg (fun h => by cases h.1)]
  exact put_no1 L A c key value w hC hc1 hLL hks hvs hok
 | true =>
  by_cases hk : 1 ≤ key.size ∧ key.size ≤ 40
  ·
   by_cases hv : value.size ≤ 60
   ·
    cases hth : hsk ((ansP L).1.map BuI.kv) key with
    | true =>
     rw [hth, if_pos rfl] at hpl
     rw [if_pos ⟨rfl, hk, hv, by omega⟩]
     exact put_set L A c key value w hC hc1 hLL hks hvs hok hk hv hth
    | false =>
     rw [hth, if_neg (by decide)] at hpl
     by_cases hfl : (ansP L).1.length = 60
     ·
      rw [if_neg (fun h => by have := h.2.2.2; omega)]
      exact put_full L A c key value w hC hc1 hLL hks hvs hok hk hv hth hfl
     ·
      rw [if_pos ⟨rfl, hk, hv, by omega⟩]
      exact put_ins L A c key value w hC hc1 hLL hks hvs hok hk hv hth hfl
   ·
    rw [if_neg (fun h => hv h.2.2.1)]
    exact put_no3 L A c key value w hC hc1 hLL hks hvs hok hk hv
  ·
   rw [if_neg (fun h => hk h.2.1)]
   exact put_no2 L A c key value w hC hc1 hLL hks hvs hok hk
end Go.Proofs.Ytjknkeipginpcaa.TrG
end

section
namespace Go.Proofs.Ytjknkeipginpcaa.PQ
open Go.RowKit Go.Proofs.YtjknkeipginpcaaW.PrintWords Go.Proofs.YtjknkeipginpcaaW.PrintLast Go.Proofs.YtjknkeipginpcaaW.PrintMore
attribute [local go_sem] max2_int min2_int max_two min_two max_three min_three max_four min_four
set_option linter.unusedVariables false
set_option linter.unusedSimpArgs false
def impl_PutKey.f (l0_0 : List (S71)) (a1 : ByteArray) (a2 : ByteArray) : Option (List (S71) × Bool) := if (l0_0.length ≤ 1048576 ∧ a1.size ≤ 1048576 ∧ a2.size ≤ 1048576) then some (TrG.ansK l0_0 a1 a2) else none
theorem impl_PutKey.calls (A0_0 : Option Addr) (c0_0 : Nat) (l0_0 : List (S71)) (a1 : ByteArray) (a2 : ByteArray) (r1 : List (S71)) (r2 : Bool) (w : World) (hr0_0 : Kd.C k71 w A0_0 l0_0.length l0_0) (hc0_0 : l0_0.length ≤ c0_0) (h : impl_PutKey.f l0_0 a1 a2 = some (r1, r2)) :
  Calls Try.prog 41 #[.agg #[.slice A0_0 l0_0.length c0_0], .string a1, .string a2] w fun e w' => ∃ v0_ : Value, e = .returned (.tuple #[.agg #[v0_], .bool r2]) ∧ Kd.R k71 71 w' w.heap.size (fun _ => True) v0_ r1 ∧ Below w.heap.size w w' := by
 unfold impl_PutKey.f at h
 split at h
 ·
  rename_i hs
  have h1 := Option.some.inj h
  have := TrG.putKey l0_0 A0_0 c0_0 a1 a2 w hr0_0 hc0_0 hs.1 (by omega) (by omega)
  rw [h1] at this
  exact this
 ·
  cases h

end Go.Proofs.Ytjknkeipginpcaa.PQ
end

section
namespace Go.Proofs.Ytjknkeipginpcaa.TrG
set_option linter.unusedVariables false
set_option linter.unusedSimpArgs false
open Go.RowKit Go.Proofs.Ytjknkeipginpcaa.PQ Go.Proofs.YtjknkeipginpcaaW.PrintWords Go.Proofs.Ytjknkeipginpcaa.Pre Go.Proofs.Ytjknkeipginpcaa.Tr Go.Proofs.Ytjknkeipginpcaa.Pr Go.Proofs.Ytjknkeipginpcaa.Po
theorem plc_at : ∀ (l : List KV) (key : ByteArray) (i : Nat), i ≤ l.length → (∀ j, j < i → ls (l.getD j zKV).1 key = true) → (i < l.length → ls (l.getD i zKV).1 key = false) → plc l key = i
 | [], key, i, hi, h1, h2 => by
  have : i = 0 := by simpa using hi
  subst this
  rfl
 | a :: l, key, 0, hi, h1, h2 => by
  rw [plc_cons, if_neg]
  have := h2 (by simp)
  simpa using this
 | a :: l, key, i + 1, hi, h1, h2 => by
  have h0 : ls a.1 key = true := by simpa using h1 0 (by omega)
  rw [plc_cons, if_pos h0, plc_at l key i (by simpa using hi) (fun j hj => by simpa using h1 (j + 1) (by omega)) (fun h => by simpa using h2 (by simpa using h))]
theorem at_ev (ps : List Pb) (hp : ps.length ≤ 1048576) (key : ByteArray) : Evt (fun k => spec_l7At.f k ps key) (((plc (ps.map BuS.kv) key : Nat) : Int), hsk (ps.map BuS.kv) key) := by
 unfold spec_l7At.f
 have key1 : ∀ (m i : Nat), i + m = ps.length → (∀ j, j < i → ls ((ps.map BuS.kv).getD j zKV).1 key = true) → Evt (fun k => spec_l7At.l0 k ps key (i : Int)) (((plc (ps.map BuS.kv) key : Nat) : Int), hsk (ps.map BuS.kv) key) := by
  intro m
  induction m with
  | zero =>
   intro i hi hj
   have e := plc_at (ps.map BuS.kv) key i (by rw [List.length_map]; omega) hj (fun h => by rw [List.length_map] at h; omega)
   refine (Evt.step (fun k => spec_l7At.l0.eq_2 _ _ _ k) (Evt.neg (by omega) (Evt.const _))).eq ?_
   rw [e]
   unfold hsk
   rw [e, decide_eq_false (by rw [List.length_map]; omega)]
   rfl
  | succ m ih =>
   intro i hi hj
   have q1 : i < ps.length := by omega
   have e0 := (BuS.kv_key ps i q1).1
   refine Evt.step (fun k => spec_l7At.l0.eq_2 _ _ _ k) (Evt.pos (by omega) (Evt.pos (by omega) ?_))
   rw [← e0]
   cases h : ls ((ps.map BuS.kv).getD i zKV).1 key with
   | true =>
    refine Evt.pos h ?_
    rw [w64 (n := (i : Int) + 1) (by omega) (by omega), show (i : Int) + 1 = ((i + 1 : Nat) : Int) by omega]
    refine ih (i + 1) (by omega) (fun j h2 => ?_)
    rcases Nat.lt_or_ge j i with h3 | h3
    ·
     exact hj j h3
    ·
     obtain rfl : j = i := by omega
     exact h
   | false =>
    have e := plc_at (ps.map BuS.kv) key i (by rw [List.length_map]; omega) hj (fun _ => h)
    refine Evt.neg (by show ¬ ls _ _ = true; rw [h]; decide) ((Evt.const _).eq ?_)
    rw [e]
    unfold hsk
    rw [e, decide_eq_true (by rw [List.length_map]; exact q1), Bool.true_and]
    congr 1
    rw [Bool.eq_iff_iff, beq_iff_eq, decide_eq_true_iff]
    exact Byt.toList_iff
 exact key1 ps.length 0 (by omega) (fun j h => absurd h (Nat.not_lt_zero _))
theorem treapS_f (ps : List Pb) (hp : ps.length ≤ 1048576) (hk : ∀ x ∈ ps, x.f0.size ≤ 1048576) : spec_l7Treap.f ps = some (enc ps.length 0 (ps.map BuS.kv)) := if_pos ⟨hp, hk⟩
theorem encS (ps : List Pb) (l : List KV) (h : ps.map BuS.kv = l) : enc ps.length 0 (ps.map BuS.kv) = enc l.length 0 l := by
 subst h
 rw [List.length_map]
/-- What is known of a good treap's keys. -/
theorem good_of_ansP {L : List Lb} {l : List KV} (h : ansP L = (l.map bkI, true)) : l.length ≤ 60 ∧ Ri l ∧ ∀ x ∈ l, x.1.size ≤ 40 ∧ x.2.size ≤ 60 := by
 have hri := ansP_ri L
 rw [h] at hri
 refine ⟨by have := hri.2.1; rw [List.length_map] at this; exact this, ?_, fun x hx => hri.2.2 (bkI x) (List.mem_map.2 ⟨x, hx, rfl⟩)⟩
 have := hri.1
 rw [show ((l.map bkI, true) : List Pa × Bool).1 = l.map bkI from rfl, bkI_kv] at this
 exact this
theorem sz_map {l m : List KV} (h : ∀ x ∈ l, x.1.size ≤ 40 ∧ x.2.size ≤ 60) (hm : ∀ x ∈ m, x ∈ l) : ∀ x ∈ m.map bkS, x.f0.size ≤ 1048576 := by
 intro x hx
 obtain ⟨y, hy, rfl⟩ := List.mem_map.1 hx
 have := (h y (hm y hy)).1
 show y.1.size ≤ 1048576
 omega
theorem cut_both (L : List Lb) (key : ByteArray) : Evt (fun k => spec_CutKey.f k L key) (ansC L key) := by
 unfold spec_CutKey.f
 rcases both L with ⟨l, hg, h1, h2⟩ | ⟨h1, _, h2⟩
 ·
  obtain ⟨h60, hri, hsz⟩ := good_of_ansP h1
  have ha := at_ev (l.map bkS) (by rw [List.length_map]; omega) key
  rw [bkS_kv] at ha
  have ec : ansC L key = if hsk l key = true then (enc (l.eraseIdx (plc l key)).length 0 (l.eraseIdx (plc l key)), true) else ([], false) := by
   unfold ansC
   rw [h1, show ((l.map bkI, true) : List Pa × Bool).1 = l.map bkI from rfl, bkI_kv]
   simp
  refine Evt.bind h2 (Evt.bind ha (Evt.pos rfl ?_))
  by_cases hth : hsk l key = true
  ·
   have hp := hsk_lt hth
   rw [ec.trans (if_pos hth)]
   refine Evt.pos hth (Evt.bsome (Evt.pos (by show (0 : Int) ≤ ((plc l key : Nat) : Int); omega) (Evt.pos (by rw [List.length_map]; show ((plc l key : Nat) : Int) ≤ _; omega) (Evt.bsome (Evt.pos (by simp; omega) (Evt.bsome ?_))))))
   show Evt (fun k => if 0 ≤ wrap64 (((plc l key : Nat) : Int) + 1) then _ else _) _
   rw [w64 (n := ((plc l key : Nat) : Int) + 1) (by omega) (by omega), show (((plc l key : Nat) : Int) + 1).toNat = plc l key + 1 by omega]
   refine Evt.pos (by omega) (Evt.pos (by rw [List.length_map]; omega) (Evt.bsome (Evt.pos (by simp; omega) ?_)))
   have e : ([] ++ (l.map bkS).take (plc l key)) ++ (l.map bkS).drop (plc l key + 1) = (l.eraseIdx (plc l key)).map bkS := by
    rw [List.nil_append, List.eraseIdx_eq_take_drop_succ, List.map_append, List.map_take, List.map_drop]
   show Evt (fun k => (spec_l7Treap.f (([] ++ (l.map bkS).take (((plc l key : Nat) : Int)).toNat) ++ (l.map bkS).drop (plc l key + 1))).bind _) _
   rw [Int.toNat_natCast, e, treapS_f _ (by rw [List.length_map, List.length_eraseIdx_of_lt hp]; omega) (sz_map hsz (fun x hx => List.mem_of_mem_eraseIdx hx))]
   refine Evt.bsome ((Evt.const _).eq ?_)
   rw [encS _ _ (bkS_kv _)]
  ·
   rw [ec.trans (if_neg hth)]
   exact Evt.neg hth (Evt.const _)
 ·
  have ha := at_ev [] (by simp) key
  have ec : ansC L key = ([], false) := if_neg (fun h => by rw [h1] at h; cases h.1)
  rw [ec]
  exact Evt.bind h2 (Evt.bind ha (Evt.neg (by decide) (Evt.const _)))
theorem put_ev (ps : List Pb) (hp : ps.length ≤ 60) (key value : ByteArray) : Evt (fun k => spec_l7Put.f k ps key value) ((putL (ps.map BuS.kv) key value).map bkS) := by
 unfold spec_l7Put.f putL
 have hpl := plc_le (ps.map BuS.kv) key
 rw [List.length_map] at hpl
 have ha := at_ev ps (by omega) key
 refine Evt.bind ha (Evt.pos (by omega) (Evt.pos (by omega) (Evt.bsome (Evt.pos (by simp; omega) (Evt.bsome (Evt.pos (by simp; omega) (Evt.bsome ?_)))))))
 rw [Int.toNat_natCast]
 have back : ∀ qs : List Pb, (qs.map BuS.kv).map bkS = qs := kvS_bk
 cases hth : hsk (ps.map BuS.kv) key with
 | true =>
  have hlt := hsk_lt hth
  rw [List.length_map] at hlt
  refine Evt.pos rfl ?_
  rw [w64 (n := ((plc (ps.map BuS.kv) key : Nat) : Int) + 1) (by omega) (by omega), show (((plc (ps.map BuS.kv) key : Nat) : Int) + 1).toNat = plc (ps.map BuS.kv) key + 1 by omega]
  refine Evt.pos (by omega) (Evt.pos (by omega) (Evt.bsome (Evt.pos (by simp; omega) ((Evt.const _).eq ?_))))
  rw [if_pos rfl, List.map_append, List.map_cons, List.map_take, List.map_drop, back]
  simp [bkS]
 | false =>
  refine Evt.neg (fun h => by cases h) (Evt.bsome (Evt.pos (by simp; omega) ((Evt.const _).eq ?_)))
  rw [if_neg (fun h => by cases h), List.map_append, List.map_cons, List.map_take, List.map_drop, back]
  simp [bkS]
theorem putL_mem {l : List KV} {key value : ByteArray} {x : KV} (h : x ∈ putL l key value) : x ∈ l ∨ x = (key, value) := by
 unfold putL at h
 split at h
 ·
  rcases List.mem_append.1 h with h | h
  ·
   exact .inl (List.mem_of_mem_take h)
  ·
   rcases List.mem_cons.1 h with h | h
   ·
    exact .inr h
   ·
    exact .inl (List.mem_of_mem_drop h)
 ·
  rcases List.mem_append.1 h with h | h
  ·
   exact .inl (List.mem_of_mem_take h)
  ·
   rcases List.mem_cons.1 h with h | h
   ·
    exact .inr h
   ·
    exact .inl (List.mem_of_mem_drop h)
theorem put_both (L : List Lb) (key value : ByteArray) : Evt (fun k => spec_PutKey.f k L key value) (ansK L key value) := by
 unfold spec_PutKey.f
 have bad : ∀ (ps : List Pb), ansK L key value = ([], false) → Evt (fun k => spec_PutKey.j0 k key value ps true) (ansK L key value) := fun ps h => by
  rw [h]
  exact Evt.step (fun k => spec_PutKey.j0.eq_2 _ _ _ _ k) (Evt.pos rfl (Evt.const _))
 rcases both L with ⟨l, hg, h1, h2⟩ | ⟨h1, _, h2⟩
 ·
  obtain ⟨h60, hri, hsz⟩ := good_of_ansP h1
  have ek : ansK L key value = if (1 ≤ key.size ∧ key.size ≤ 40) ∧ value.size ≤ 60 ∧ (putL l key value).length ≤ 60 then (enc (putL l key value).length 0 (putL l key value), true) else ([], false) := by
   unfold ansK
   rw [h1, show ((l.map bkI, true) : List Pa × Bool).1 = l.map bkI from rfl, bkI_kv]
   simp
  refine Evt.bind h2 (Evt.pos rfl (Evt.bind (Evt.of fun _ => in_eq _ _ _) ?_))
  by_cases hk : 1 ≤ key.size ∧ key.size ≤ 40
  ·
   refine Evt.pos (decide_eq_true (by omega)) ?_
   by_cases hv : value.size ≤ 60
   ·
    rw [show decide ((value.size : Int) > 60) = false from decide_eq_false (by omega)]
    have hp := put_ev (l.map bkS) (by rw [List.length_map]; exact h60) key value
    rw [bkS_kv] at hp
    refine Evt.step (fun k => spec_PutKey.j0.eq_2 _ _ _ _ k) (Evt.neg (by decide) (Evt.bind hp ?_))
    by_cases hl : (putL l key value).length ≤ 60
    ·
     rw [ek.trans (if_pos ⟨hk, hv, hl⟩)]
     refine Evt.neg (by rw [List.length_map]; omega) ?_
     rw [treapS_f _ (by rw [List.length_map]; omega) (fun x hx => by
      obtain ⟨y, hy, rfl⟩ := List.mem_map.1 hx
      show y.1.size ≤ _
      rcases putL_mem hy with h | h
      ·
       have := (hsz y h).1; omega
      ·
       rw [h]; show key.size ≤ _; omega)]
     refine Evt.bsome ((Evt.const _).eq ?_)
     rw [encS _ _ (bkS_kv _)]
    ·
     rw [ek.trans (if_neg (fun h => hl h.2.2))]
     exact Evt.pos (by rw [List.length_map]; omega) (Evt.const _)
   ·
    rw [show decide ((value.size : Int) > 60) = true from decide_eq_true (by omega)]
    exact bad _ (ek.trans (if_neg (fun h => hv h.2.1)))
  ·
   refine Evt.neg (by simp only [decide_eq_true_eq]; omega) ?_
   exact bad _ (ek.trans (if_neg (fun h => hk h.1)))
 ·
  have hb := bad [] (by unfold ansK; rw [h1, if_neg (fun h => by cases h.1)])
  exact Evt.bind h2 (Evt.neg (by decide) hb)
theorem cut_small (L : List Lb) (key : ByteArray) : (ansC L key).1.length ≤ 60 := by
 have h := (ansP_ri L).2.1
 unfold ansC
 split
 ·
  rename_i hc
  have hp := hsk_lt hc.2
  show (enc _ 0 _).length ≤ 60
  rw [enc_len _ _ _ (Nat.le_refl _), List.length_eraseIdx_of_lt hp, List.length_map]
  omega
 ·
  simp
theorem put_small (L : List Lb) (key value : ByteArray) : (ansK L key value).1.length ≤ 60 := by
 unfold ansK
 split
 ·
  rename_i hc
  show (enc _ 0 _).length ≤ 60
  rw [enc_len _ _ _ (Nat.le_refl _)]
  exact hc.2.2.2
 ·
  simp
end Go.Proofs.Ytjknkeipginpcaa.TrG
end

section
namespace Go.Proofs.Ytjknkeipginpcaa.TrG
set_option linter.unusedVariables false
set_option linter.unusedSimpArgs false
open Go.RowKit Go.Proofs.Ytjknkeipginpcaa.PQ Go.Proofs.YtjknkeipginpcaaW.PrintWords Go.Proofs.YtjknkeipginpcaaW.PrintLast Go.Proofs.YtjknkeipginpcaaW.PrintMore Go.Proofs.Ytjknkeipginpcaa.Pre Go.Proofs.Ytjknkeipginpcaa.Tr Go.Proofs.Ytjknkeipginpcaa.Pr Go.Proofs.Ytjknkeipginpcaa.Po

end Go.Proofs.Ytjknkeipginpcaa.TrG
end

section
namespace Go.Proofs.Ytjknkeipginpcaa.TrG
set_option linter.unusedVariables false
set_option linter.unusedSimpArgs false
open Go.RowKit Go.Proofs.Ytjknkeipginpcaa.PQ Go.Proofs.YtjknkeipginpcaaW.PrintWords Go.Proofs.YtjknkeipginpcaaW.PrintLast Go.Proofs.YtjknkeipginpcaaW.PrintMore Go.Proofs.Ytjknkeipginpcaa.Pre Go.Proofs.Ytjknkeipginpcaa.Tr Go.Proofs.Ytjknkeipginpcaa.Pr Go.Proofs.Ytjknkeipginpcaa.Po
attribute [local go_sem] Go.Proofs.Ytjknkeipginpcaa.StrO.leq_s Go.Proofs.Ytjknkeipginpcaa.StrO.gtr_s Go.Proofs.Ytjknkeipginpcaa.StrO.geq_s

end Go.Proofs.Ytjknkeipginpcaa.TrG
end

section
namespace Go.Proofs.Ytjknkeipginpcaa.TrG
set_option linter.unusedVariables false
open Go.RowKit Go.Proofs.Ytjknkeipginpcaa.PQ Go.Proofs.YtjknkeipginpcaaW.PrintWords Go.Proofs.Ytjknkeipginpcaa.Pre Go.Proofs.Ytjknkeipginpcaa.Tr Go.Proofs.Ytjknkeipginpcaa.Pr Go.Proofs.Ytjknkeipginpcaa.Po

end Go.Proofs.Ytjknkeipginpcaa.TrG
end

section
namespace Go.Proofs.Ytjknkeipginpcaa.TrG
set_option linter.unusedVariables false
open Go.RowKit Go.Proofs.Ytjknkeipginpcaa.PQ Go.Proofs.YtjknkeipginpcaaW.PrintWords Go.Proofs.YtjknkeipginpcaaW.PrintLast Go.Proofs.YtjknkeipginpcaaW.PrintMore Go.Proofs.Ytjknkeipginpcaa.Pre Go.Proofs.Ytjknkeipginpcaa.Tr Go.Proofs.Ytjknkeipginpcaa.Pr Go.Proofs.Ytjknkeipginpcaa.Po
/-- In which blocks a row of limbs lies. -/
def Rng (v : Value) (a b : Nat) : Prop := ∀ k, v.ownBlock = some k → a ≤ k ∧ k < b
theorem Rng.of {W : World} {base : Nat} {ok : Nat → Prop} {v : Value} {xs : List Lb} (h : Kd.R k71 71 W base ok v xs) : Rng v base W.heap.size := fun k hk => ⟨((Kd.R_bound h).1 k hk).2.1, ((Kd.R_bound h).1 k hk).2.2.1⟩
/-- A row of limbs of one's own. -/
abbrev Lr (W : World) (lo : Nat) (v : Value) (xs : List Lb) : Prop := Kd.R k71 71 W lo (fun k => some k = v.ownBlock) v xs
theorem Lr.of {W : World} {base lo : Nat} {ok : Nat → Prop} {v : Value} {xs : List Lb} (h : Kd.R k71 71 W base ok v xs) (hl : lo ≤ base) : Lr W lo v xs := Kd.R_tight rfl (Kd.R_lower h hl)
theorem Lr.below {W W2 : World} {lo : Nat} {v : Value} {xs : List Lb} (h : Lr W lo v xs) (hb : Below W.heap.size W W2) : Lr W2 lo v xs := Kd.R_below h hb
theorem Lr.kept {W W2 : World} {lo : Nat} {v u : Value} {xs : List Lb} (h : Lr W lo v xs) (hk : Kept W W2 (fun k => some k = u.ownBlock)) (hne : ∀ k, v.ownBlock = some k → u.ownBlock = some k → False) : Lr W2 lo v xs :=
  Kd.R_step h (fun k hk2 hlt => hk.2 k hlt (fun h3 => hne k hk2.symm h3.symm))
theorem Lr.c {W : World} {lo : Nat} {A : Option Addr} {n c : Nat} {xs : List Lb} (h : Lr W lo (.slice A n c) xs) : Kd.C k71 W A xs.length xs := (Kd.R_reads' h).2.2
theorem Lr.n {W : World} {lo : Nat} {A : Option Addr} {c : Nat} {xs : List Lb} (h : Lr W lo (.slice A xs.length c) xs) : xs.length ≤ c := (Kd.R_reads' h).2.1
theorem Lr.len {W : World} {lo : Nat} {A : Option Addr} {n c : Nat} {xs : List Lb} (h : Lr W lo (.slice A n c) xs) : n = xs.length ∧ n ≤ c := ⟨(Kd.R_reads' h).1, (Kd.R_reads' h).2.1⟩
theorem Lr.slice {W : World} {lo : Nat} {v : Value} {xs : List Lb} (h : Lr W lo v xs) : ∃ A c, v = .slice A xs.length c := Kd.R_slice h
/-- A box. -/
abbrev Bx (W : World) (b : Nat) (v : Value) (t : TypeId) : Prop := W.heap[b]? = some (.cells #[v] t (0, 0))
theorem Bx.below {W W2 : World} {b : Nat} {v : Value} {t : TypeId} (h : Bx W b v t) (hb : Below W.heap.size W W2) : Bx W2 b v t := (hb.block b (blk_lt h)).trans h
theorem Bx.kept {W W2 : World} {b : Nat} {v u : Value} {t : TypeId} (h : Bx W b v t) (hk : Kept W W2 (fun k => some k = u.ownBlock)) (hne : u.ownBlock = some b → False) : Bx W2 b v t := (hk.2 b (blk_lt h) (fun e => hne e.symm)).trans h
theorem Bx.cell {W : World} {b : Nat} {v : Value} {t : TypeId} (h : Bx W b v t) : W.cell? ⟨b, 0, none⟩ = some v := (blk_cell h 0).trans rfl
theorem Bx.drew {W : World} {b : Nat} {v : Value} {t : TypeId} (h : Bx W b v t) : Bx W.drew b v t := h
theorem Lr.drew {W : World} {lo : Nat} {v : Value} {xs : List Lb} (h : Lr W lo v xs) : Lr W.drew lo v xs := Kd.R_drew h
theorem Rng.mono {v : Value} {a b a' b' : Nat} (h : Rng v a b) (ha : a' ≤ a) (hb : b ≤ b') : Rng v a' b' := fun k hk => by
  have := h k hk
  omega
theorem Lr.set {W : World} {lo b : Nat} {v v0 : Value} {xs : List Lb} (h : Lr W lo v xs) (hz : Bx W b v0 29) (u : Value) : Lr (W.setCell ⟨b, 0, none⟩ u) lo v xs := Kd.R_set h hz (by decide) 0 u
theorem Bx.set {W : World} {b g : Nat} {v : Value} {t : TypeId} (h : Bx W b v t) (hne : b ≠ g) (u : Value) : Bx (W.setCell ⟨g, 0, none⟩ u) b v t := blk_far h hne u
theorem Bx.put {W : World} {b : Nat} {v : Value} {t : TypeId} (h : Bx W b v t) (u : Value) : Bx (W.setCell ⟨b, 0, none⟩ u) b u t := blk_put h 0 _ rfl
theorem one {w : World} (v0 : Value) (t : TypeId) : Bx (w.alloc (.cells #[v0] t)) w.heap.size v0 t ∧ Below w.heap.size w (w.alloc (.cells #[v0] t)) := ⟨at_new w _, below_alloc (Below.refl _ _) _⟩
theorem far {a b c d : Nat} {v u : Value} (hv : Rng v a b) (hu : Rng u c d) (h : b ≤ c ∨ d ≤ a) : ∀ k, v.ownBlock = some k → u.ownBlock = some k → False := fun k h1 h2 => by
  have := hv k h1
  have := hu k h2
  omega
theorem out {a b g : Nat} {u : Value} (hu : Rng u a b) (h : g < a ∨ b ≤ g) : u.ownBlock = some g → False := fun h1 => by
  have := hu g h1
  omega
end Go.Proofs.Ytjknkeipginpcaa.TrG
end

section
namespace Go.Proofs.Ytjknkeipginpcaa.PQ
open Go.RowKit Go.Proofs.YtjknkeipginpcaaW.PrintWords Go.Proofs.YtjknkeipginpcaaW.PrintLast Go.Proofs.YtjknkeipginpcaaW.PrintMore
attribute [local go_sem] max2_int min2_int max_two min_two max_three min_three max_four min_four
set_option linter.unusedVariables false
set_option linter.unusedSimpArgs false


end Go.Proofs.Ytjknkeipginpcaa.PQ
end

section
namespace Go.Proofs.Ytjknkeipginpcaa.TrG
set_option linter.unusedVariables false
set_option linter.unusedSimpArgs false
open Go.RowKit Go.Proofs.Ytjknkeipginpcaa.PQ Go.Proofs.YtjknkeipginpcaaW.PrintWords Go.Proofs.YtjknkeipginpcaaW.PrintLast Go.Proofs.Ytjknkeipginpcaa.Pre Go.Proofs.Ytjknkeipginpcaa.Tr Go.Proofs.Ytjknkeipginpcaa.Pr Go.Proofs.Ytjknkeipginpcaa.Po
theorem sameTreaps_ev (l : List Lb) (hl : l.length ≤ 1048576) : Evt (fun k => laws_sameTreaps.f k l l) true := by
 unfold laws_sameTreaps.f
 refine Evt.pos rfl ?_
 have key : ∀ (m i : Nat), i + m = l.length → Evt (fun k => laws_sameTreaps.l0 k (l.length : Int) (i : Int) l l) true := by
  intro m
  induction m with
  | zero => intro i hi; exact Evt.step (fun k => laws_sameTreaps.l0.eq_2 _ _ _ _ k) (Evt.neg (by omega) (Evt.const _))
  | succ m ih =>
   intro i hi
   refine Evt.step (fun k => laws_sameTreaps.l0.eq_2 _ _ _ _ k) (Evt.pos (by omega) (Evt.pos (by omega) (Evt.pos (by omega) (Evt.pos (by omega) (Evt.neg (by simp) ?_)))))
   rw [w64 (n := (i : Int) + 1) (by omega) (by omega)]
   exact ih (i + 1) (by omega)
 exact key l.length 0 (by omega)
/-- A key and a value of fit size. -/
def okX (x : KV) : Prop := 1 ≤ x.1.size ∧ x.1.size ≤ 40 ∧ x.2.size ≤ 60
theorem getD_get (l : List KV) (i : Nat) (h : i < l.length) : l.getD i zKV = l[i] := by
 rw [List.getD_eq_getElem?_getD, List.getElem?_eq_getElem h]
 rfl
theorem ok_iff (l : List KV) : (∀ i, i < l.length → okV l i = true) ↔ Ri l ∧ ∀ x ∈ l, okX x := by
 constructor
 ·
  intro h
  refine ⟨ri_of_ok h, fun x hx => ?_⟩
  obtain ⟨i, hi, rfl⟩ := List.getElem_of_mem hx
  have := h i hi
  unfold okV at this
  rw [getD_get l i hi] at this
  simp only [Bool.and_eq_true, decide_eq_true_eq] at this
  exact ⟨this.1.1.1, this.1.1.2, this.1.2⟩
 ·
  rintro ⟨hr, hk⟩ i hi
  have h1 := hk _ (List.getElem_mem hi)
  unfold okV
  rw [getD_get l i hi]
  simp only [Bool.and_eq_true, Bool.or_eq_true, decide_eq_true_eq]
  refine ⟨⟨⟨h1.1, h1.2.1⟩, h1.2.2⟩, ?_⟩
  by_cases h0 : i = 0
  ·
   exact .inl h0
  ·
   right
   rw [getD_get l (i - 1) (by omega)]
   exact List.pairwise_iff_getElem.1 hr (i - 1) i (by omega) hi (by omega)
theorem good_enc {l : List KV} (h : l.length ≤ 60) (hr : Ri l) (hk : ∀ x ∈ l, okX x) : Good (enc l.length 0 l) l := ⟨h, (ok_iff l).2 ⟨hr, hk⟩, rfl⟩
theorem Good.ri {L : List Lb} {l : List KV} (h : Good L l) : Ri l := ((ok_iff l).1 h.2.1).1
theorem Good.ok {L : List Lb} {l : List KV} (h : Good L l) : ∀ x ∈ l, okX x := ((ok_iff l).1 h.2.1).2
theorem good_f {L : List Lb} {l : List KV} (h : Good L l) (hm : L.length ≤ 1048576) : impl_GoodTreap.f L = some true := by
 unfold impl_GoodTreap.f
 rw [show impl_pairsOf.f L = some (ansP L) from if_pos hm, ansP_good h]
 rfl
theorem take_ls (l : List KV) (key : ByteArray) : ∀ x ∈ l.take (plc l key), ls x.1 key = true := by
 have e : l.take (plc l key) = l.takeWhile (fun x => ls x.1 key) := by
  unfold plc
  exact (List.prefix_iff_eq_take.1 (List.takeWhile_prefix _)).symm
 intro x hx
 rw [e] at hx
 exact List.all_eq_true.1 (List.all_takeWhile (p := fun x : KV => ls x.1 key) (l := l)) x hx
theorem drop_ls (l : List KV) (key : ByteArray) (hr : Ri l) : ∀ x ∈ l.drop (plc l key), ls x.1 key = false := by
 intro x hx
 obtain ⟨i, hi, rfl⟩ := List.getElem_of_mem hx
 have hi2 : plc l key + i < l.length := by rw [List.length_drop] at hi; omega
 rw [List.getElem_drop]
 have := plc_spec l key hr (plc l key + i) hi2
 rw [getD_get l _ hi2] at this
 rw [this]
 exact decide_eq_false (by omega)
theorem drawn_below {w w' : World} (h : Drawn0 w w') : Below w.heap.size w w' := by
 obtain ⟨m, rfl⟩ := h
 exact pw_below_drewN (Below.refl _ _) m
theorem ls_ne {a b : ByteArray} (h : ls a b = true) : a ≠ b := by
 rintro rfl
 rw [ls_irrefl] at h
 cases h
theorem seek (key : ByteArray) : ∀ (n : Nat) (l : List KV) (b f : Nat) (pre post L : List Lb), L = pre ++ (enc n b l ++ post) → pre.length = b → l.length ≤ n → l.length ≤ f → Ri l → L.length ≤ 60 → ∀ looked : Int, 0 ≤ looked → looked + (n : Int) ≤ 100000 →
  (∀ v, (key, v) ∈ l → ∃ st, Evt (fun k => impl_GetKey.l0 k key looked (rt b l) L) (v, st, true) ∧ st ≤ looked + dp L f (rt b l)) ∧ ((∀ x ∈ l, x.1 ≠ key) → Evt (fun k => impl_GetKey.l0 k key looked (rt b l) L) (⟨#[]⟩, 0, false))
 | n, [], b, f, pre, post, L, hL, hp, hn, hf, hr, h60, looked, k0, k1 => ⟨fun v h => (List.not_mem_nil h).elim, fun _ => Evt.step (fun k => impl_GetKey.l0.eq_2 _ _ _ _ k) (Evt.neg (by rw [rt_nil]; omega) (Evt.const _))⟩
 | 0, a :: l, b, f, pre, post, L, hL, hp, hn, hf, hr, h60, looked, k0, k1 => by simp at hn
 | n + 1, a :: l', b, 0, pre, post, L, hL, hp, hn, hf, hr, h60, looked, k0, k1 => by simp at hf
 | n + 1, a :: l', b, f + 1, pre, post, L, hL, hp, hn, hf, hr, h60, looked, k0, k1 => by
  have h0 : (a :: l').length ≠ 0 := by simp
  have ht := top_lt (a :: l') (by simp)
  revert hL hn hf hr ht h0
  generalize a :: l' = l
  intro hL hn hf hr h0 ht
  have hrt : rt b l = (b : Int) := if_neg h0
  have hx := split3 l (top l) ht
  have hrd : rd_T71 L (b : Int) = ⟨(l.getD (top l) zKV).1, (l.getD (top l) zKV).2, rt (b + 1) (l.take (top l)), rt (b + 1 + top l) (l.drop (top l + 1))⟩ := by
   rw [hL, enc_cons n b l h0, List.cons_append, ← hp]
   exact at_pre _ _ _
  have hbl : b < L.length := by rw [hL, enc_cons n b l h0, ← hp]; simp
  have e1 : (enc n (b + 1) (l.take (top l))).length = top l := by rw [enc_len _ _ _ (by rw [List.length_take]; omega), List.length_take]; omega
  have hL1 : L = (pre ++ [⟨(l.getD (top l) zKV).1, (l.getD (top l) zKV).2, rt (b + 1) (l.take (top l)), rt (b + 1 + top l) (l.drop (top l + 1))⟩]) ++ (enc n (b + 1) (l.take (top l)) ++ (enc n (b + 1 + top l) (l.drop (top l + 1)) ++ post)) := by
   rw [hL, enc_cons n b l h0]
   simp [List.append_assoc]
  have hL2 : L = (pre ++ [⟨(l.getD (top l) zKV).1, (l.getD (top l) zKV).2, rt (b + 1) (l.take (top l)), rt (b + 1 + top l) (l.drop (top l + 1))⟩] ++ enc n (b + 1) (l.take (top l))) ++ (enc n (b + 1 + top l) (l.drop (top l + 1)) ++ post) := by
   rw [hL1]
   simp [List.append_assoc]
  have hr2 := hr
  rw [hx] at hr2
  obtain ⟨ra, rb, rc⟩ := List.pairwise_append.1 hr2
  obtain ⟨rd, re⟩ := List.pairwise_cons.1 rb
  have ih1 := seek key n (l.take (top l)) (b + 1) f _ _ L hL1 (by rw [List.length_append, hp]; rfl) (by rw [List.length_take]; omega) (by rw [List.length_take]; omega) ra h60 (looked + 1) (by omega)
  have ih2 := seek key n (l.drop (top l + 1)) (b + 1 + top l) f _ _ L hL2 (by rw [List.length_append, List.length_append, hp, e1]; rfl) (by rw [List.length_drop]; omega) (by rw [List.length_drop]; omega) re h60 (looked + 1) (by omega)
  have hw : wrap64 (looked + 1) = looked + 1 := w64 (by omega) (by omega)
  have hdp : dp L (f + 1) (b : Int) = 1 + max (dp L f (rt (b + 1) (l.take (top l)))) (dp L f (rt (b + 1 + top l) (l.drop (top l + 1)))) := by
   conv => lhs; unfold dp
   rw [if_neg (by omega), hrd]
  have d1 := (dp_bd L f (rt (b + 1) (l.take (top l)))).1
  have d2 := (dp_bd L f (rt (b + 1 + top l) (l.drop (top l + 1)))).1
  have hm : ∀ x, x ∈ l ↔ x ∈ l.take (top l) ∨ x = l.getD (top l) zKV ∨ x ∈ l.drop (top l + 1) := by
   intro x
   conv => lhs; rw [hx]
   rw [List.mem_append, List.mem_cons]
  rw [hrt, hdp]
  have body : ∀ r, Evt (fun k => if key.toList = (rd_T71 L (b : Int)).f0.toList then (some ((rd_T71 L (b : Int)).f1, wrap64 (looked + 1), true)) else (if (Op.bytesLess key.toList ((rd_T71 L (b : Int)).f0).toList) = true then (impl_GetKey.l0 k key (wrap64 (looked + 1)) ((rd_T71 L (b : Int)).f2) L) else (impl_GetKey.l0 k key (wrap64 (looked + 1)) ((rd_T71 L (b : Int)).f3) L))) r → Evt (fun k => impl_GetKey.l0 k key looked (b : Int) L) r :=
   fun r h => Evt.step (fun k => impl_GetKey.l0.eq_2 _ _ _ _ k) (Evt.pos (by omega) (Evt.pos (by omega) (Evt.pos (by omega) h)))
  rw [hrd, hw] at body
  by_cases c1 : key = (l.getD (top l) zKV).1
  ·
   refine ⟨fun v hv => ⟨looked + 1, body _ ((Evt.pos (by rw [c1]) (Evt.const _)).eq ?_), by omega⟩, fun hno => (hno (l.getD (top l) zKV) ((hm _).2 (.inr (.inl rfl))) c1.symm).elim⟩
   rcases (hm _).1 hv with h | h | h
   ·
    exact (ls_ne (rc _ h _ (List.mem_cons_self ..)) c1).elim
   ·
    show ((l.getD (top l) zKV).2, looked + 1, true) = _
    rw [← h]
   ·
    exact (ls_ne (rd _ h) c1.symm).elim
  ·
   have c1' : ¬ key.toList = (l.getD (top l) zKV).1.toList := fun h => c1 (Byt.toList_inj h)
   cases c2 : ls key (l.getD (top l) zKV).1 with
   | true =>
    obtain ⟨i1, i2⟩ := ih1 (by omega)
    refine ⟨fun v hv => ?_, fun hno => body _ (Evt.neg c1' (Evt.pos c2 (i2 (fun x hx => hno x ((hm x).2 (.inl hx))))))⟩
    have hin : (key, v) ∈ l.take (top l) := by
     rcases (hm _).1 hv with h | h | h
     ·
      exact h
     ·
      exact (c1 (by rw [← h])).elim
     ·
      have := ls_asymm (rd _ h)
      rw [c2] at this
      cases this
    obtain ⟨st, h1, h2⟩ := i1 v hin
    exact ⟨st, body _ (Evt.neg c1' (Evt.pos c2 h1)), by omega⟩
   | false =>
    obtain ⟨i1, i2⟩ := ih2 (by omega)
    refine ⟨fun v hv => ?_, fun hno => body _ (Evt.neg c1' (Evt.neg (by show ¬ ls _ _ = true; rw [c2]; decide) (i2 (fun x hx => hno x ((hm x).2 (.inr (.inr hx)))))))⟩
    have hin : (key, v) ∈ l.drop (top l + 1) := by
     rcases (hm _).1 hv with h | h | h
     ·
      have := rc _ h _ (List.mem_cons_self ..)
      have h3 : ls key (l.getD (top l) zKV).1 = true := this
      rw [c2] at h3
      cases h3
     ·
      exact (c1 (by rw [← h])).elim
     ·
      exact h
    obtain ⟨st, h1, h2⟩ := i1 v hin
    exact ⟨st, body _ (Evt.neg c1' (Evt.neg (by show ¬ ls _ _ = true; rw [c2]; decide) h1)), by omega⟩
theorem good_in {M : List Lb} {m : List KV} (h : Good M m) {key v : ByteArray} (hv : (key, v) ∈ m) : ∃ st, Evt (fun k => impl_GetKey.f k M key) (v, st, true) ∧ st ≤ dp M M.length 0 := by
 have hl := h.len
 have h6 := h.1
 have hm : m.length ≠ 0 := fun e => by rw [List.length_eq_zero_iff.1 e] at hv; cases hv
 obtain ⟨st, h1, h2⟩ := (seek key m.length m 0 M.length [] [] M (by simp [h.2.2]) rfl (Nat.le_refl _) (by omega) h.ri (by omega) 0 (by omega) (by omega)).1 v hv
 rw [show rt 0 m = 0 from if_neg hm] at h1 h2
 refine ⟨st, ?_, by omega⟩
 unfold impl_GetKey.f
 rw [good_f h (by omega)]
 refine Evt.bsome (Evt.pos rfl (Evt.step (fun k => impl_GetKey.j0.eq_2 _ _ _ k) (Evt.neg ?_ h1)))
 rw [beq_iff_eq]
 omega
theorem good_out {M : List Lb} {m : List KV} (h : Good M m) {key : ByteArray} (hv : ∀ x ∈ m, x.1 ≠ key) : Evt (fun k => impl_GetKey.f k M key) (⟨#[]⟩, 0, false) := by
 have hl := h.len
 have h6 := h.1
 unfold impl_GetKey.f
 rw [good_f h (by omega)]
 refine Evt.bsome (Evt.pos rfl (Evt.step (fun k => impl_GetKey.j0.eq_2 _ _ _ k) ?_))
 by_cases hm : m.length = 0
 ·
  exact Evt.pos (by rw [beq_iff_eq]; omega) (Evt.const _)
 ·
  have h1 := (seek key m.length m 0 M.length [] [] M (by simp [h.2.2]) rfl (Nat.le_refl _) (by omega) h.ri (by omega) 0 (by omega) (by omega)).2 hv
  rw [show rt 0 m = 0 from if_neg hm] at h1
  exact Evt.neg (by rw [beq_iff_eq]; omega) h1
theorem hsk_at {l : List KV} {key : ByteArray} (h : hsk l key = true) : l.getD (plc l key) zKV = (key, (l.getD (plc l key) zKV).2) := by
 unfold hsk at h
 rw [Bool.and_eq_true, decide_eq_true_eq, decide_eq_true_eq] at h
 exact Prod.ext h.2 rfl
theorem hsk_in {l : List KV} {key : ByteArray} (h : hsk l key = true) : (key, (l.getD (plc l key) zKV).2) ∈ l := by
 have hp := hsk_lt h
 rw [← hsk_at h, getD_get l _ hp]
 exact List.getElem_mem hp
theorem hsk_drop {l : List KV} {key : ByteArray} (hr : Ri l) (h : hsk l key = false) : ∀ x ∈ l.drop (plc l key), ls key x.1 = true := by
 intro x hx
 have h1 := drop_ls l key hr x hx
 have hne : x.1 ≠ key := by
  intro e
  obtain ⟨i, hi, rfl⟩ := List.getElem_of_mem hx
  rw [List.length_drop] at hi
  have hp : plc l key < l.length := by omega
  rw [List.getElem_drop] at e
  have h0 : ¬ (l.getD (plc l key) zKV).1 = key := by
   intro e2
   unfold hsk at h
   rw [decide_eq_true hp, decide_eq_true e2] at h
   cases h
  have h2 := drop_ls l key hr l[plc l key] (by
   rw [List.drop_eq_getElem_cons hp]
   exact List.mem_cons_self ..)
  rw [getD_get l _ hp] at h0
  by_cases hz : i = 0
  ·
   subst hz
   exact h0 e
  ·
   have h3 : ls (l[plc l key]).1 (l[plc l key + i]).1 = true := List.pairwise_iff_getElem.1 hr _ _ hp (by omega) (by omega)
   rw [e] at h3
   rw [h2] at h3
   cases h3
 cases h2 : ls key x.1 with
 | true => rfl
 | false => exact (hne (ls_tri h1 h2)).elim
theorem hsk_out {l : List KV} {key : ByteArray} (hr : Ri l) (h : hsk l key = false) : ∀ x ∈ l, x.1 ≠ key := by
 intro x hx
 rw [← List.take_append_drop (plc l key) l] at hx
 rcases List.mem_append.1 hx with hx | hx
 ·
  exact ls_ne (take_ls l key x hx)
 ·
  exact Ne.symm (ls_ne (hsk_drop hr h x hx))
/-- The three parts of a list around a key that is there. -/
theorem hsk_split {l : List KV} {key : ByteArray} (hr : Ri l) (h : hsk l key = true) : l = l.take (plc l key) ++ (key, (l.getD (plc l key) zKV).2) :: l.drop (plc l key + 1) ∧ (∀ x ∈ l.drop (plc l key + 1), ls key x.1 = true) ∧ Ri (l.take (plc l key)) ∧ Ri (l.drop (plc l key + 1)) := by
 have hp := hsk_lt h
 have e := split3 l (plc l key) hp
 rw [hsk_at h] at e
 have hr2 := hr
 rw [e] at hr2
 obtain ⟨ra, rb, _⟩ := List.pairwise_append.1 hr2
 obtain ⟨rc, rd⟩ := List.pairwise_cons.1 rb
 exact ⟨e, rc, ra, rd⟩
theorem mid_ri {a b : List KV} {key v : ByteArray} (ha : Ri a) (hb : Ri b) (h1 : ∀ x ∈ a, ls x.1 key = true) (h2 : ∀ x ∈ b, ls key x.1 = true) : Ri (a ++ (key, v) :: b) :=
 List.pairwise_append.2 ⟨ha, List.pairwise_cons.2 ⟨h2, hb⟩, fun x hx y hy => (List.mem_cons.1 hy).elim (fun e => by rw [e]; exact h1 x hx) (fun hy => ls_trans (h1 x hx) (h2 y hy))⟩
theorem getD_left (a b : List KV) (j : Nat) (h : j < a.length) : (a ++ b).getD j zKV = a[j] := by
 rw [getD_get _ _ (by rw [List.length_append]; omega), List.getElem_append_left h]
theorem getD_mid (a b : List KV) (x : KV) : (a ++ x :: b).getD a.length zKV = x := by
 rw [getD_get _ _ (by simp), List.getElem_append_right (Nat.le_refl _)]
 simp
theorem putL_yes {l : List KV} {key v : ByteArray} (h : hsk l key = true) : putL l key v = l.take (plc l key) ++ (key, v) :: l.drop (plc l key + 1) := if_pos h
theorem mid_plc {a b : List KV} {key v : ByteArray} (h1 : ∀ x ∈ a, ls x.1 key = true) : plc (a ++ (key, v) :: b) key = a.length ∧ hsk (a ++ (key, v) :: b) key = true := by
 have e : plc (a ++ (key, v) :: b) key = a.length := by
  refine plc_at _ key a.length (by simp) (fun j hj => ?_) (fun _ => ?_)
  ·
   rw [getD_left a _ j hj]
   exact h1 _ (List.getElem_mem hj)
  ·
   rw [getD_mid]
   exact ls_irrefl key
 refine ⟨e, ?_⟩
 unfold hsk
 rw [e, decide_eq_true (by simp), getD_mid, Bool.true_and]
 exact decide_eq_true rfl
/-- A list with a key put: what stands around it. -/
theorem putL_mid {l : List KV} {key : ByteArray} (hr : Ri l) (v : ByteArray) : ∃ a b, putL l key v = a ++ (key, v) :: b ∧ Ri a ∧ Ri b ∧ (∀ x ∈ a, ls x.1 key = true) ∧ (∀ x ∈ b, ls key x.1 = true) ∧ (∀ x ∈ a, x ∈ l) ∧ (∀ x ∈ b, x ∈ l) ∧ (if hsk l key = true then l = a ++ (key, (l.getD (plc l key) zKV).2) :: b else l = a ++ b) := by
 unfold putL
 cases h : hsk l key with
 | true =>
  obtain ⟨e, rc, ra, rd⟩ := hsk_split hr h
  exact ⟨_, _, if_pos rfl, ra, rd, take_ls l key, rc, fun x hx => List.mem_of_mem_take hx, fun x hx => List.mem_of_mem_drop hx, by rw [if_pos rfl]; exact e⟩
 | false =>
  have hr2 := hr
  rw [← List.take_append_drop (plc l key) l] at hr2
  obtain ⟨ra, rb, _⟩ := List.pairwise_append.1 hr2
  exact ⟨_, _, if_neg (by decide), ra, rb, take_ls l key, hsk_drop hr h, fun x hx => List.mem_of_mem_take hx, fun x hx => List.mem_of_mem_drop hx, by rw [if_neg (by decide), List.take_append_drop]⟩
theorem ansK_of {L : List Lb} {l : List KV} (h : Good L l) (key v : ByteArray) : ansK L key v = if (1 ≤ key.size ∧ key.size ≤ 40) ∧ v.size ≤ 60 ∧ (putL l key v).length ≤ 60 then (enc (putL l key v).length 0 (putL l key v), true) else ([], false) := by
 unfold ansK
 rw [ansP_good h, show ((l.map bkI, true) : List Pa × Bool).1 = l.map bkI from rfl, bkI_kv]
 simp
theorem ansC_of {L : List Lb} {l : List KV} (h : Good L l) (key : ByteArray) : ansC L key = if hsk l key = true then (enc (l.eraseIdx (plc l key)).length 0 (l.eraseIdx (plc l key)), true) else ([], false) := by
 unfold ansC
 rw [ansP_good h, show ((l.map bkI, true) : List Pa × Bool).1 = l.map bkI from rfl, bkI_kv]
 simp
/-- What is put is found, and taken back. -/
theorem put_facts {L X : List Lb} {key v : ByteArray} (h : ansK L key v = (X, true)) : ∃ l m, Good L l ∧ Good X m ∧ (key, v) ∈ m ∧ (hsk l key = true → ansK X key (l.getD (plc l key) zKV).2 = (L, true)) ∧ (hsk l key = false → ansC X key = (L, true)) := by
 have hok : (ansP L).2 = true := by
  unfold ansK at h
  by_cases hc : (ansP L).2 = true
  ·
   exact hc
  ·
   rw [if_neg (fun h => hc h.1)] at h
   simp at h
 have hg := ansP_true hok
 generalize (ansP L).1.map BuI.kv = l at hg
 rw [ansK_of hg] at h
 by_cases hc : (1 ≤ key.size ∧ key.size ≤ 40) ∧ v.size ≤ 60 ∧ (putL l key v).length ≤ 60
 ·
  rw [if_pos hc] at h
  simp only [Prod.mk.injEq, and_true] at h
  subst h
  obtain ⟨a, b, e, ra, rb, ha, hb, ma, mb, hl⟩ := putL_mid hg.ri v
  have hg2 : Good (enc (putL l key v).length 0 (putL l key v)) (putL l key v) := by
   refine good_enc hc.2.2 (by rw [e]; exact mid_ri ra rb ha hb) (fun x hx => ?_)
   rcases putL_mem hx with h | h
   ·
    exact hg.ok x h
   ·
    rw [h]; exact ⟨hc.1.1, hc.1.2, hc.2.1⟩
  have hin : (key, v) ∈ putL l key v := by rw [e]; simp
  obtain ⟨hp, hs⟩ := mid_plc (b := b) (v := v) ha
  rw [← e] at hp hs
  refine ⟨l, putL l key v, hg, hg2, hin, fun hk => ?_, fun hk => ?_⟩
  ·
   rw [if_pos hk] at hl
   have hold := hg.ok _ (hsk_in hk)
   have e3 : putL (putL l key v) key (l.getD (plc l key) zKV).2 = l := by
    rw [putL_yes hs, hp, e]
    conv => rhs; rw [hl]
    rw [List.take_left, show a.length + 1 = (a ++ [(key, v)]).length by simp, show a ++ (key, v) :: b = (a ++ [(key, v)]) ++ b by simp, List.drop_left]
   rw [ansK_of hg2, if_pos ⟨hc.1, hold.2.2, by rw [e3]; exact hg.1⟩, e3, hg.2.2]
  ·
   rw [if_neg (by rw [hk]; decide)] at hl
   have e3 : (putL l key v).eraseIdx (plc (putL l key v) key) = l := by
    rw [hp, e, hl, List.eraseIdx_eq_take_drop_succ, List.take_left, show a.length + 1 = (a ++ [(key, v)]).length by simp, show a ++ (key, v) :: b = (a ++ [(key, v)]) ++ b by simp, List.drop_left]
   rw [ansC_of hg2, if_pos hs, e3, hg.2.2]
 ·
  rw [if_neg hc] at h
  simp at h
/-- What is cut is not there. -/
theorem cut_facts {U V : List Lb} {key : ByteArray} (h : ansC U key = (V, true)) : ∃ m, Good V m ∧ (∀ x ∈ m, x.1 ≠ key) ∧ V.length + 1 = U.length := by
 have hok : (ansP U).2 = true := by
  unfold ansC at h
  by_cases hc : (ansP U).2 = true
  ·
   exact hc
  ·
   rw [if_neg (fun h => hc h.1)] at h
   simp at h
 have hg := ansP_true hok
 generalize (ansP U).1.map BuI.kv = l at hg
 rw [ansC_of hg] at h
 by_cases hc : hsk l key = true
 ·
  rw [if_pos hc] at h
  simp only [Prod.mk.injEq, and_true] at h
  subst h
  obtain ⟨e, rc, ra, rd⟩ := hsk_split hg.ri hc
  have hp := hsk_lt hc
  have hr2 := hg.ri
  rw [e] at hr2
  have hri : Ri (l.eraseIdx (plc l key)) := List.Pairwise.sublist (List.eraseIdx_sublist l _) hg.ri
  have hl : (l.eraseIdx (plc l key)).length = l.length - 1 := List.length_eraseIdx_of_lt hp
  refine ⟨l.eraseIdx (plc l key), good_enc (by have := hg.1; omega) hri (fun x hx => hg.ok x (List.mem_of_mem_eraseIdx hx)), fun x hx => ?_, ?_⟩
  ·
   rw [List.eraseIdx_eq_take_drop_succ] at hx
   rcases List.mem_append.1 hx with hx | hx
   ·
    exact ls_ne (take_ls l key x hx)
   ·
    exact Ne.symm (ls_ne (rc x hx))
  ·
   rw [enc_len _ _ _ (Nat.le_refl _), hl, ← hg.len]
   omega
 ·
  rw [if_neg hc] at h
  simp at h
theorem cut_no {U V : List Lb} {key : ByteArray} (h : ansC U key = (V, false)) : V = [] := by
 unfold ansC at h
 split at h
 ·
  simp at h
 ·
  simp only [Prod.mk.injEq, and_true] at h
  exact h.symm
end Go.Proofs.Ytjknkeipginpcaa.TrG
end

section
namespace Go.Proofs.Ytjknkeipginpcaa.TrG
set_option linter.unusedVariables false
open Go.RowKit Go.Proofs.Ytjknkeipginpcaa.PQ Go.Proofs.YtjknkeipginpcaaW.PrintWords Go.Proofs.YtjknkeipginpcaaW.PrintLast Go.Proofs.Ytjknkeipginpcaa.Pre Go.Proofs.Ytjknkeipginpcaa.Tr Go.Proofs.Ytjknkeipginpcaa.Pr Go.Proofs.Ytjknkeipginpcaa.Po Go.Proofs.Ytjknkeipginpcaa.Cur
theorem num_ev : ∀ (n : Nat) (a : Int), 0 ≤ a → a ≤ (n : Int) → n ≤ 1000 → ∃ t, Evt (fun k => spec_l1Num.f k a) t ∧ t.size ≤ n + 1
 | 0, a, h0, h1, _ => ⟨_, Evt.step (fun k => spec_l1Num.f.eq_2 _ k) (Evt.pos (by omega) (Evt.const _)), by rw [strOfNums_size]; exact Nat.le_refl _⟩
 | n + 1, a, h0, h1, hn => by
  by_cases h : a < 10
  ·
   exact ⟨_, Evt.step (fun k => spec_l1Num.f.eq_2 _ k) (Evt.pos h (Evt.const _)), by rw [strOfNums_size]; exact Nat.succ_le_succ (Nat.zero_le _)⟩
  ·
   have e : Int.tdiv a 10 = a / 10 := Int.tdiv_eq_ediv_of_nonneg h0
   obtain ⟨t, ht, hz⟩ := num_ev n (a / 10) (by omega) (by omega) (by omega)
   have ht2 : Evt (fun k => spec_l1Num.f k (wrap64 (Int.tdiv a 10))) t := by
    rw [e, w64 (n := a / 10) (by omega) (by omega)]
    exact ht
   refine ⟨_, Evt.step (fun k => spec_l1Num.f.eq_2 _ k) (Evt.neg h (Evt.bind ht2 (Evt.bsome (Evt.pos ?_ (Evt.const _))))), ?_⟩
   ·
    rw [strOfNums_size]
    show t.size + 1 ≤ 9223372036854775807
    omega
   ·
    rw [ByteArray.size_append, strOfNums_size]
    show t.size + 1 ≤ n + 1 + 1
    omega
theorem key_ev {l0 : List Int} (h : Bytes l0) (at_ st : Int) (h0 : 0 ≤ at_) (h1 : at_ ≤ 1000000) :
  ∃ t a' s', spec_l1Cur_treapKey.f l0 at_ st = some (t, a', s') ∧ t.size ≤ 4 ∧ at_ ≤ a' ∧ a' ≤ at_ + 4 := by
 unfold spec_l1Cur_treapKey.f
 obtain ⟨t1, a1, s1, e1, hm1, ha1, hb1⟩ := of_ev h at_ st (([(⟨#[97]⟩ : ByteArray), (⟨#[98]⟩ : ByteArray), (⟨#[107, 101, 121]⟩ : ByteArray), (⟨#[107, 49]⟩ : ByteArray), (⟨#[107, 50]⟩ : ByteArray), (⟨#[122, 122]⟩ : ByteArray), (⟨#[109]⟩ : ByteArray)] : List ByteArray)) (by simp) h0 (by omega)
 obtain ⟨t2, a2, s2, e2, hm2, ha2, hb2⟩ := of_ev h a1 s1 (([(⟨#[]⟩ : ByteArray), (⟨#[49]⟩ : ByteArray), (⟨#[120]⟩ : ByteArray), (⟨#[0]⟩ : ByteArray)] : List ByteArray)) (by simp) (by omega) (by omega)
 have z1 : t1.size ≤ 3 := by
  simp only [List.mem_cons, List.not_mem_nil, or_false] at hm1
  rcases hm1 with rfl | rfl | rfl | rfl | rfl | rfl | rfl <;> decide
 have z2 : t2.size ≤ 1 := by
  simp only [List.mem_cons, List.not_mem_nil, or_false] at hm2
  rcases hm2 with rfl | rfl | rfl | rfl <;> decide
 refine ⟨t1 ++ t2, a2, s2, ?_, ?_, by omega, by omega⟩
 ·
  rw [e1, Option.bind_some]
  show (spec_l1Cur_of.f l0 a1 s1 _).bind _ = _
  rw [e2, Option.bind_some]
  exact if_pos (by show t1.size + t2.size ≤ _; omega)
 ·
  rw [ByteArray.size_append]; omega
/-- Short, with short keys. -/
def Sm (L : List Lb) : Prop := L.length ≤ 60 ∧ ∀ x ∈ L, x.f0.size ≤ 1000
theorem enc_keys : ∀ (n b : Nat) (l : List KV), (∀ x ∈ l, x.1.size ≤ 1000) → ∀ x ∈ enc n b l, x.f0.size ≤ 1000
 | 0, b, l, h, x, hx => by simp [enc] at hx
 | n + 1, b, l, h, x, hx => by
  unfold enc at hx
  split at hx
  ·
   cases hx
  ·
   rename_i hl
   rcases List.mem_cons.1 hx with rfl | hx
   ·
    show (l.getD (top l) zKV).1.size ≤ 1000
    rw [List.getD_eq_getElem?_getD]
    cases hg : l[top l]? with
    | none => exact Nat.zero_le _
    | some y => exact h y (List.mem_of_getElem? hg)
   ·
    rcases List.mem_append.1 hx with hx | hx
    ·
     exact enc_keys n _ _ (fun y hy => h y (List.mem_of_mem_take hy)) x hx
    ·
     exact enc_keys n _ _ (fun y hy => h y (List.mem_of_mem_drop hy)) x hx
theorem Sm.nil : Sm [] := ⟨Nat.zero_le _, fun x hx => by cases hx⟩
theorem kv_keys (L : List Lb) : ∀ x ∈ (ansP L).1.map BuI.kv, x.1.size ≤ 1000 := by
 intro x hx
 obtain ⟨y, hy, rfl⟩ := List.mem_map.1 hx
 have := ((ansP_ri L).2.2 y hy).1
 show y.f0.size ≤ 1000
 omega
theorem cut_sm (L : List Lb) (key : ByteArray) : Sm (ansC L key).1 := by
 refine ⟨cut_small L key, ?_⟩
 unfold ansC
 split
 ·
  exact enc_keys _ _ _ (fun x hx => kv_keys L x (List.mem_of_mem_eraseIdx hx))
 ·
  exact Sm.nil.2
theorem put_sm (L : List Lb) (key value : ByteArray) : Sm (ansK L key value).1 := by
 refine ⟨put_small L key value, ?_⟩
 unfold ansK
 split
 ·
  rename_i hc
  refine enc_keys _ _ _ (fun x hx => ?_)
  rcases putL_mem hx with h | h
  ·
   exact kv_keys L x h
  ·
   rw [h]
   have := hc.2.1
   show key.size ≤ 1000
   omega
 ·
  exact Sm.nil.2
theorem j3_ev {l0 : List Int} (h : Bytes l0) (b : Bool) (at_ st : Int) (L : List Lb) (hL : Sm L) (hp : b = true → 0 < L.length) (h0 : 0 ≤ at_) (h1 : at_ ≤ 1000000) :
  ∃ L' a' s', Evt (fun k => spec_l1Cur_treap.j3 k b l0 at_ st L) (L', a', s') ∧ L'.length ≤ 60 ∧ at_ ≤ a' ∧ a' ≤ at_ + 6 := by
 cases b with
 | false => exact ⟨L, at_, st, Evt.step (fun k => spec_l1Cur_treap.j3.eq_2 _ _ _ _ _ k) (Evt.neg (by decide) (Evt.const _)), hL.1, by omega, by omega⟩
 | true =>
  have hl := hp rfl
  obtain ⟨i, a1, s1, e1, hi0, hi1, ha1, hb1⟩ := pick_ev h at_ st (L.length : Int) h0 (by omega)
  obtain ⟨q, a2, s2, e2, hq0, hq1, ha2, hb2⟩ := pick_ev h a1 s1 3 (by omega) (by omega)
  obtain ⟨x, a3, s3, e3, hx0, hx1, ha3, hb3⟩ := pick_ev h a2 s2 4 (by omega) (by omega)
  have hil : i < (L.length : Int) := by omega
  by_cases q0 : q = 0
  ·
   refine ⟨_, a2, s2, Evt.step (fun k => spec_l1Cur_treap.j3.eq_2 _ _ _ _ _ k) (Evt.pos rfl (Evt.bind (Evt.of fun _ => e1) (Evt.bind (Evt.of fun _ => e2) (Evt.pos q0 (Evt.pos hi0 (Evt.pos hil (Evt.pos ?_ (Evt.const _)))))))), by rw [List.length_set]; exact hL.1, by omega, by omega⟩
   have e : rd_T71 L i = L[i.toNat]'(by omega) := by
    unfold rd_T71
    simp [show i.toNat < L.length by omega]
   show (rd_T71 L i).f0.size + 1 ≤ _
   rw [e]
   have := hL.2 _ (List.getElem_mem (show i.toNat < L.length by omega))
   omega
  ·
   by_cases q1 : q = 1
   ·
    exact ⟨_, a3, s3, Evt.step (fun k => spec_l1Cur_treap.j3.eq_2 _ _ _ _ _ k) (Evt.pos rfl (Evt.bind (Evt.of fun _ => e1) (Evt.bind (Evt.of fun _ => e2) (Evt.neg q0 (Evt.pos q1 (Evt.bind (Evt.of fun _ => e3) (Evt.pos hi0 (Evt.pos hil (Evt.const _))))))))), by rw [List.length_set]; exact hL.1, by omega, by omega⟩
   ·
    exact ⟨_, a3, s3, Evt.step (fun k => spec_l1Cur_treap.j3.eq_2 _ _ _ _ _ k) (Evt.pos rfl (Evt.bind (Evt.of fun _ => e1) (Evt.bind (Evt.of fun _ => e2) (Evt.neg q0 (Evt.neg q1 (Evt.bind (Evt.of fun _ => e3) (Evt.pos hi0 (Evt.pos hil (Evt.const _))))))))), by rw [List.length_set]; exact hL.1, by omega, by omega⟩
theorem loop_ev {l0 : List Int} (h : Bytes l0) : ∀ (n : Nat) (at_ st : Int) (L : List Lb), Sm L → 0 ≤ at_ → at_ + 20 * n ≤ 900000 → n ≤ 70 →
  ∃ L' a' s', Evt (fun k => spec_l1Cur_treap.l0 k (n : Int) l0 at_ st L) (L', a', s') ∧ L'.length ≤ 60 ∧ at_ ≤ a' ∧ a' ≤ at_ + 20 * n + 10 := by
 intro n
 induction n with
 | zero =>
  intro at_ st L hL h0 h1 _
  by_cases hl : (L.length : Int) > 0
  ·
   obtain ⟨b, a1, s1, e1, ha1, hb1⟩ := one_ev h at_ st 20 h0 (by omega)
   obtain ⟨L', a2, s2, e2, hs, ha2, hb2⟩ := j3_ev h b a1 s1 L hL (fun _ => by omega) (by omega) (by omega)
   exact ⟨L', a2, s2, Evt.step (fun k => spec_l1Cur_treap.l0.eq_2 _ _ _ _ _ k) (Evt.neg (by omega) (Evt.pos hl (Evt.bind (Evt.of fun _ => e1) e2))), hs, by omega, by omega⟩
  ·
   obtain ⟨L', a2, s2, e2, hs, ha2, hb2⟩ := j3_ev h false at_ st L hL (fun h => by cases h) (by omega) (by omega)
   exact ⟨L', a2, s2, Evt.step (fun k => spec_l1Cur_treap.l0.eq_2 _ _ _ _ _ k) (Evt.neg (by omega) (Evt.neg hl e2)), hs, by omega, by omega⟩
 | succ n ih =>
  intro at_ st L hL h0 h1 hn
  have hw : wrap64 (((n + 1 : Nat) : Int) - 1) = (n : Int) := by rw [w64 (n := ((n + 1 : Nat) : Int) - 1) (by omega) (by omega)]; omega
  obtain ⟨key, a1, s1, e1, _, ha1, hb1⟩ := key_ev h at_ st h0 (by omega)
  have tail : ∀ (key : ByteArray) (a1 s1 : Int), at_ ≤ a1 → a1 ≤ at_ + 6 → ∃ L' a' s', Evt (fun k => spec_l1Cur_treap.j2 k ((n + 1 : Nat) : Int) key l0 a1 s1 L) (L', a', s') ∧ L'.length ≤ 60 ∧ at_ ≤ a' ∧ a' ≤ at_ + 20 * (n + 1 : Nat) + 10 := by
   intro key a1 s1 ha1 hb1
   obtain ⟨b, a2, s2, e2, ha2, hb2⟩ := one_ev h a1 s1 5 (by omega) (by omega)
   cases b with
   | true =>
    have hc := cut_both L key
    cases hok : (ansC L key).2 with
    | true =>
     obtain ⟨L', a3, s3, e3, hs, ha3, hb3⟩ := ih a2 s2 (ansC L key).1 (cut_sm L key) (by omega) (by omega) (by omega)
     refine ⟨L', a3, s3, Evt.step (fun k => spec_l1Cur_treap.j2.eq_2 _ _ _ _ _ _ k) (Evt.bind (Evt.of fun _ => e2) (Evt.pos rfl (Evt.bind hc (Evt.pos hok ?_)))), hs, by omega, by omega⟩
     rw [hw]; exact e3
    | false =>
     obtain ⟨L', a3, s3, e3, hs, ha3, hb3⟩ := ih a2 s2 L hL (by omega) (by omega) (by omega)
     refine ⟨L', a3, s3, Evt.step (fun k => spec_l1Cur_treap.j2.eq_2 _ _ _ _ _ _ k) (Evt.bind (Evt.of fun _ => e2) (Evt.pos rfl (Evt.bind hc (Evt.neg (by rw [hok]; decide) ?_)))), hs, by omega, by omega⟩
     rw [hw]; exact e3
   | false =>
    obtain ⟨v, a3, s3, e3, _, ha3, hb3⟩ := of_ev h a2 s2 (([(⟨#[]⟩ : ByteArray), (⟨#[118]⟩ : ByteArray), (⟨#[118, 97, 108, 117, 101]⟩ : ByteArray)] : List ByteArray)) (by simp) (by omega) (by omega)
    have hc := put_both L key v
    cases hok : (ansK L key v).2 with
    | true =>
     obtain ⟨L', a4, s4, e4, hs, ha4, hb4⟩ := ih a3 s3 (ansK L key v).1 (put_sm L key v) (by omega) (by omega) (by omega)
     refine ⟨L', a4, s4, Evt.step (fun k => spec_l1Cur_treap.j2.eq_2 _ _ _ _ _ _ k) (Evt.bind (Evt.of fun _ => e2) (Evt.neg (fun h => by cases h) (Evt.bind (Evt.of fun _ => e3) (Evt.bind hc (Evt.pos hok ?_))))), hs, by omega, by omega⟩
     rw [hw]; exact e4
    | false =>
     obtain ⟨L', a4, s4, e4, hs, ha4, hb4⟩ := ih a3 s3 L hL (by omega) (by omega) (by omega)
     refine ⟨L', a4, s4, Evt.step (fun k => spec_l1Cur_treap.j2.eq_2 _ _ _ _ _ _ k) (Evt.bind (Evt.of fun _ => e2) (Evt.neg (fun h => by cases h) (Evt.bind (Evt.of fun _ => e3) (Evt.bind hc (Evt.neg (by rw [hok]; decide) ?_))))), hs, by omega, by omega⟩
     rw [hw]; exact e4
  by_cases hbig : ((n + 1 : Nat) : Int) > 20
  ·
   obtain ⟨x, a2, s2, e2, hx0, hx1, ha2, hb2⟩ := pick_ev h a1 s1 200 (by omega) (by omega)
   obtain ⟨t, e3, ht⟩ := num_ev 200 x hx0 (by omega) (by omega)
   obtain ⟨L', a3, s3, e4, hs, ha3, hb3⟩ := tail ((⟨#[110]⟩ : ByteArray) ++ t) a2 s2 (by omega) (by omega)
   exact ⟨L', a3, s3, Evt.step (fun k => spec_l1Cur_treap.l0.eq_2 _ _ _ _ _ k) (Evt.pos (by omega) (Evt.bind (Evt.of fun _ => e1) (Evt.pos hbig (Evt.bind (Evt.of fun _ => e2) (Evt.bind e3 (Evt.pos (by omega) e4)))))), hs, ha3, hb3⟩
  ·
   obtain ⟨L', a3, s3, e4, hs, ha3, hb3⟩ := tail key a1 s1 (by omega) (by omega)
   exact ⟨L', a3, s3, Evt.step (fun k => spec_l1Cur_treap.l0.eq_2 _ _ _ _ _ k) (Evt.pos (by omega) (Evt.bind (Evt.of fun _ => e1) (Evt.neg hbig e4))), hs, ha3, hb3⟩
theorem treap_ev {l0 : List Int} (h : Bytes l0) (at_ st : Int) (h0 : 0 ≤ at_) (h1 : at_ ≤ 100000) :
  ∃ L a' s', Evt (fun k => spec_l1Cur_treap.f k l0 at_ st) (L, a', s') ∧ L.length ≤ 60 ∧ at_ ≤ a' ∧ a' ≤ at_ + 2000 := by
 unfold spec_l1Cur_treap.f
 obtain ⟨x, a1, s1, e1, hx0, hx1, ha1, hb1⟩ := pick_ev h at_ st 14 h0 (by omega)
 obtain ⟨b, a2, s2, e2, ha2, hb2⟩ := one_ev h a1 s1 20 (by omega) (by omega)
 cases b with
 | true =>
  obtain ⟨L, a3, s3, e3, hs, ha3, hb3⟩ := loop_ev h 70 a2 s2 [] Sm.nil (by omega) (by omega) (by omega)
  exact ⟨L, a3, s3, Evt.bind (Evt.of fun _ => e1) (Evt.bind (Evt.of fun _ => e2) (Evt.pos rfl (Evt.step (fun k => spec_l1Cur_treap.j0.eq_2 _ _ _ _ k) e3))), hs, by omega, by omega⟩
 | false =>
  obtain ⟨n, hn⟩ : ∃ n : Nat, x = (n : Int) := ⟨x.toNat, by omega⟩
  subst hn
  obtain ⟨L, a3, s3, e3, hs, ha3, hb3⟩ := loop_ev h n a2 s2 [] Sm.nil (by omega) (by omega) (by omega)
  exact ⟨L, a3, s3, Evt.bind (Evt.of fun _ => e1) (Evt.bind (Evt.of fun _ => e2) (Evt.neg (fun h => by cases h) (Evt.step (fun k => spec_l1Cur_treap.j0.eq_2 _ _ _ _ k) e3))), hs, by omega, by omega⟩
end Go.Proofs.Ytjknkeipginpcaa.TrG
end

section
namespace Go.Proofs.Ytjknkeipginpcaa.TrG
set_option linter.unusedVariables false
set_option linter.unusedSimpArgs false
open Go.RowKit Go.Proofs.Ytjknkeipginpcaa.PQ Go.Proofs.YtjknkeipginpcaaW.PrintWords Go.Proofs.YtjknkeipginpcaaW.PrintLast Go.Proofs.YtjknkeipginpcaaW.PrintMore Go.Proofs.Ytjknkeipginpcaa.Pre Go.Proofs.Ytjknkeipginpcaa.Tr Go.Proofs.Ytjknkeipginpcaa.Pr Go.Proofs.Ytjknkeipginpcaa.Po Go.Proofs.Ytjknkeipginpcaa.Cur
theorem Lr.cur {w0 W W2 : World} {g : Nat} {f0 : List Int} {f1 f2 : Int} {lo : Nat} {v : Value} {xs : List Lb} (h : Lr W lo v xs) (hi : IsS89 w0 W g f0 f1 f2) (hk : KeepBut W W2 g none) : Lr W2 lo v xs :=
 Kd.R_mono (Kd.R_keep (IsS89.apart hi h (by decide)) hk (fun _ hk => hk.2)) (fun _ hk => hk.1)
theorem Bx.cur {w0 W W2 : World} {g : Nat} {f0 : List Int} {f1 f2 : Int} {b : Nat} {v : Value} (h : Bx W b v 29) (hi : IsS89 w0 W g f0 f1 f2) (hk : KeepBut W W2 g none) : Bx W2 b v 29 :=
 KeepBut.blk hk h (Ne.symm (IsS89.ne_blk hi h (by decide))) (by simp)
/-- A drawn treap and key. -/
abbrev Gets (f : Nat) (l0 : List Int) (L : List Lb) (key : ByteArray) : Prop := ∀ (A0 : Option Addr) (c0 : Nat) (w : World), Kd.C (Kd.int .u8) w A0 l0.length l0 → l0.length ≤ c0 →
 Calls Try.prog f #[.slice A0 l0.length c0] w fun e w' => ∃ v : Value, e = .returned (.tuple #[.agg #[v], .string key]) ∧ Kd.R k71 71 w' w.heap.size (fun _ => True) v L ∧ Below w.heap.size w w'
set_option maxHeartbeats 2000000 in
set_option maxRecDepth 100000 in
theorem drawGet {l0 : List Int} (h : Bytes l0) : ∃ L key, L.length ≤ 60 ∧ key.size ≤ 4 ∧ Gets 63 l0 L key := by
 obtain ⟨L, a1, s1, hev, hL, ha, hb⟩ := treap_ev h 0 0 (by omega) (by omega)
 obtain ⟨k1, e1⟩ := hev.ex
 obtain ⟨key, a2, s2, e2, hz, _⟩ := key_ev h a1 s1 ha (by omega)
 refine ⟨L, key, hL, hz, fun A0 c0 w hr0 hc0 => ?_⟩
 have E1 := aM e1
 have E2 := aM e2
 obtain ⟨wA, hwA⟩ : ∃ W, W = w.alloc (.cells #[.slice none 0 0] 29) := ⟨_, rfl⟩
 have HWA := aM hwA
 obtain ⟨b0, hbA⟩ := one (w := w) (.slice none 0 0) 29
 rw [← hwA] at b0 hbA
 have hsA : wA.heap.size = w.heap.size + 1 := by rw [hwA]; exact new_size _ _
 obtain ⟨wB, hwB⟩ : ∃ W, W = wA.alloc (.cells #[.slice A0 l0.length c0, .int .i64 0, .int .u64 0] 89) := ⟨_, rfl⟩
 have HWB := aM hwB
 have hI := IsS89.new w wA A0 c0 l0 0 0 hbA hr0
 rw [← hwB, hsA] at hI
 have HI0 := aM hI
 have HB0 := aM (show Below w.heap.size w wB by rw [hwB]; exact below_alloc hbA _)
 have X0 := aM (show Bx wB w.heap.size (.slice none 0 0) 29 by rw [hwB]; exact xblk_alloc b0 _)
 clear h hev e1 e2 ha hb hz hL hwA b0 hbA hsA hwB hI hr0 hc0
 go_enter Try.func63, Try.ntmps63
 go_upto_region 2 with (fail)
 rw [← HWA.out, ← HWB.out]
 go_wp2_with (first
  | (go_at_call 64; go_loud ((with_reducible refine (spec_l1Cur_treap.calls k1 (w.heap.size + 1) l0 0 0 L a1 s1 w _ HI0.out HB0.out E1.out).mono ?_); rintro e w1 ⟨v1, rfl, ho, hi, hb, hk⟩; obtain ⟨A1, c1, e1⟩ := Kd.R_slice ho; subst e1; have R1 := aM (Lr.of (lo := w.heap.size) ho HB0.out.size); have X1 := aM (Bx.cur X0.out HI0.out hk); have HI1 := aM hi; have HB1 := aM hb; clear ho hi hb hk X0 HI0))
  | (go_at_call 65; go_loud ((with_reducible refine (spec_l1Cur_treapKey.calls (w.heap.size + 1) l0 a1 s1 key a2 s2 w _ HI1.out HB1.out E2.out).mono ?_); rintro e w2 ⟨rfl, hi, hb, hk⟩; have R2 := aM (Lr.cur R1.out HI1.out hk); have X2 := aM (Bx.cur X1.out HI1.out hk); have HB2 := aM hb; have cr : w2.cell? ⟨w.heap.size, 0, none⟩ = some (.slice none 0 0) := Bx.cell X2.out; have fr : w2.frozen? ⟨w.heap.size, 0, none⟩ = false := blk_frozen X2.out 0; clear hi hb hk X1 HI1 R1 HB1)))
 refine bodyPost_ret (results_ct rfl _ _ w.heap.size 29 #[.slice A1 L.length c1] (0, 0) _ rfl (blk_put X2.out 0 _ rfl) Try.underlying29 rfl (by kernel_rfl)) rfl ?_
 exact ⟨_, rfl, Kd.R_mono (Lr.set R2.out X2.out _) (fun _ _ => trivial), HB2.out.setCell (p := ⟨w.heap.size, 0, none⟩) (Nat.le_refl _) _⟩
theorem drawCut {l0 : List Int} {L : List Lb} {key : ByteArray} (h : Gets 63 l0 L key) : Gets 45 l0 L key := by
 intro A0 c0 w hr0 hc0
 obtain ⟨wA, hwA⟩ : ∃ W, W = w.alloc (.cells #[.slice none 0 0] 29) := ⟨_, rfl⟩
 have HWA := aM hwA
 obtain ⟨b0, hbA⟩ := one (w := w) (.slice none 0 0) 29
 rw [← hwA] at b0 hbA
 have HX := aM b0
 have HB := aM hbA
 have HG := aM (h A0 c0 wA (Kd.C_below hr0 hbA) hc0)
 clear h hwA b0 hbA hr0 hc0
 go_enter Try.func45, Try.ntmps45
 go_wp2_with (go_at_call 63; rw [← HWA.out]; go_loud ((with_reducible refine HG.out.mono ?_); rintro e w2 ⟨v1, rfl, ho, hb⟩; obtain ⟨A1, c1, e1⟩ := Kd.R_slice ho; subst e1; have R2 := aM (Lr.of (lo := w.heap.size) ho HB.out.size); have X2 := aM (Bx.below HX.out hb); have HB2 := aM (below_step HB.out hb); have cr : w2.cell? ⟨w.heap.size, 0, none⟩ = some (.slice none 0 0) := Bx.cell X2.out; have fr : w2.frozen? ⟨w.heap.size, 0, none⟩ = false := blk_frozen X2.out 0; clear ho hb))
 refine bodyPost_ret (results_ct rfl _ _ w.heap.size 29 #[.slice A1 L.length c1] (0, 0) _ rfl (blk_put X2.out 0 _ rfl) Try.underlying29 rfl (by kernel_rfl)) rfl ?_
 exact ⟨_, rfl, Kd.R_mono (Lr.set R2.out X2.out _) (fun _ _ => trivial), HB2.out.setCell (p := ⟨w.heap.size, 0, none⟩) (Nat.le_refl _) _⟩
/-- A drawn treap and two texts. -/
abbrev Froms (f : Nat) (l0 : List Int) (L : List Lb) (a b : ByteArray) : Prop := ∀ (A0 : Option Addr) (c0 : Nat) (w : World), Kd.C (Kd.int .u8) w A0 l0.length l0 → l0.length ≤ c0 →
 Calls Try.prog f #[.slice A0 l0.length c0] w fun e w' => ∃ v : Value, e = .returned (.tuple #[.agg #[v], .string a, .string b]) ∧ Kd.R k71 71 w' w.heap.size (fun _ => True) v L ∧ Below w.heap.size w w'
set_option maxHeartbeats 4000000 in
set_option maxRecDepth 100000 in
theorem drawPut {l0 : List Int} (h : Bytes l0) : ∃ L key val, L.length ≤ 60 ∧ key.size ≤ 41 ∧ val.size ≤ 3 ∧ Froms 42 l0 L key val := by
 obtain ⟨L, a1, s1, hev, hL, ha, hb⟩ := treap_ev h 0 0 (by omega) (by omega)
 obtain ⟨k1, e1⟩ := hev.ex
 obtain ⟨key, a2, s2, e2, hz, ha2, hb2⟩ := key_ev h a1 s1 ha (by omega)
 obtain ⟨b, a3, s3, e3, ha3, hb3⟩ := one_ev h a2 s2 30 (by omega) (by omega)
 have E1 := aM e1
 have E2 := aM e2
 have vals : ∀ x : ByteArray, x ∈ ([(⟨#[]⟩ : ByteArray), (⟨#[118]⟩ : ByteArray), (⟨#[110, 101, 119]⟩ : ByteArray)] : List ByteArray) → x.size ≤ 3 := by
  intro x hx
  simp only [List.mem_cons, List.not_mem_nil, or_false] at hx
  rcases hx with rfl | rfl | rfl <;> decide
 cases b with
 | true =>
  obtain ⟨key2, a4, s4, e4, hm4, ha4, hb4⟩ := of_ev h a3 s3 ([(⟨#[]⟩ : ByteArray), (⟨#[49, 50, 51, 52, 53, 54, 55, 56, 57, 48, 49, 50, 51, 52, 53, 54, 55, 56, 57, 48, 49, 50, 51, 52, 53, 54, 55, 56, 57, 48, 49, 50, 51, 52, 53, 54, 55, 56, 57, 48, 49]⟩ : ByteArray)] : List ByteArray) (by simp) (by omega) (by omega)
  obtain ⟨val, a5, s5, e5, hm5, _⟩ := of_ev h a4 s4 ([(⟨#[]⟩ : ByteArray), (⟨#[118]⟩ : ByteArray), (⟨#[110, 101, 119]⟩ : ByteArray)] : List ByteArray) (by simp) (by omega) (by omega)
  have hz2 : key2.size ≤ 41 := by
   simp only [List.mem_cons, List.not_mem_nil, or_false] at hm4
   rcases hm4 with rfl | rfl <;> decide
  refine ⟨L, key2, val, hL, hz2, vals val hm5, fun A0 c0 w hr0 hc0 => ?_⟩
  have E3 := aM e3
  have E4 := aM e4
  have E5 := aM e5
  clear h hev e1 e2 e3 e4 e5 ha hb hz hL ha2 hb2 ha3 hb3 ha4 hb4 hm4 hm5 hz2 vals
  obtain ⟨wb0, hwb0⟩ : ∃ W, W = w.alloc (.cells #[.slice none 0 0] 29) := ⟨_, rfl⟩
  have HWB0 := aM hwb0
  obtain ⟨b0, hbA⟩ := one (w := w) (.slice none 0 0) 29
  rw [← hwb0] at b0 hbA
  have hsA : wb0.heap.size = w.heap.size + 1 := by rw [hwb0]; exact new_size _ _
  obtain ⟨w0, hw0⟩ : ∃ W, W = wb0.alloc (.cells #[.slice A0 l0.length c0, .int .i64 0, .int .u64 0] 89) := ⟨_, rfl⟩
  have HW0 := aM hw0
  have hI := IsS89.new w wb0 A0 c0 l0 0 0 hbA hr0
  rw [← hw0, hsA] at hI
  have HI0 := aM hI
  have HA0 := aM (show Below w.heap.size w w0 by rw [hw0]; exact below_alloc hbA _)
  have HS0 := aM (show w.heap.size + 2 ≤ w0.heap.size by rw [hw0, new_size, hsA]; exact Nat.le_refl _)
  have Xr0_0 := aM (show Bx w0 (w.heap.size) (.slice none 0 0) 29 by rw [hw0]; exact xblk_alloc b0 _)
  clear hw0 hI hsA hbA hr0 hc0 hwb0 b0
  go_enter Try.func42, Try.ntmps42
  go_upto_region 2 with (fail)
  rw [← HWB0.out, ← HW0.out]
  go_upto_region 3 with (first | (go_at_call 64; go_loud ((with_reducible refine (spec_l1Cur_treap.calls k1 (w.heap.size + 1) l0 0 0 L a1 s1 w _ HI0.out HA0.out E1.out).mono ?_); rintro e w1 ⟨v_t, rfl, ho, hi, hb, hk⟩; obtain ⟨A_t, c_t, e_t⟩ := Kd.R_slice ho; subst e_t; have Xr0_1 := aM (Bx.cur Xr0_0.out HI0.out hk); have HI1 := aM hi; have HA1 := aM hb; have HZ0 := aM hk.1; have Rt_1 := aM (Lr.of (lo := w.heap.size) ho HA0.out.size); clear HI0 HA0 Xr0_0; clear ho hi hb hk)))
  obtain ⟨w2, hw⟩ : ∃ W_, W_ = w1.alloc (.cells #[.slice A_t L.length c_t] 29) := ⟨_, rfl⟩
  rw [← hw]
  obtain ⟨q0, hb⟩ := one (w := w1) (.slice A_t L.length c_t) 29
  rw [← hw] at q0 hb
  have Rt_2 := aM (Lr.below Rt_1.out hb)
  have Xr0_2 := aM (Bx.below Xr0_1.out hb)
  have HI2 := aM (IsS89.below HI1.out hb)
  have HA2 := aM (below_step HA1.out hb)
  have HZ1 := aM hb.size
  clear HI1 HA1 Rt_1 Xr0_1
  have Xt_2 := aM q0
  have HZZ1 := aM (show w1.heap.size + 1 ≤ w2.heap.size by rw [hw, new_size]; exact Nat.le_refl _)
  clear hw q0 hb
  go_upto_region 6 with (first | (go_at_call 65; go_loud ((with_reducible refine (spec_l1Cur_treapKey.calls (w.heap.size + 1) l0 a1 s1 key a2 s2 w _ HI2.out HA2.out E2.out).mono ?_); rintro e w3 ⟨rfl, hi, hb, hk⟩; have Rt_3 := aM (Lr.cur Rt_2.out HI2.out hk); have Xr0_3 := aM (Bx.cur Xr0_2.out HI2.out hk); have Xt_3 := aM (Bx.cur Xt_2.out HI2.out hk); have HI3 := aM hi; have HA3 := aM hb; have HZ2 := aM hk.1; clear HI2 HA2 Rt_2 Xr0_2 Xt_2; clear hi hb hk)) | (go_at_call 66; go_loud ((with_reducible refine (spec_l1Cur_one.calls (w.heap.size + 1) l0 a2 s2 30 true a3 s3 w _ HI3.out HA3.out E3.out).mono ?_); rintro e w4 ⟨rfl, hi, hb, hk⟩; have Rt_4 := aM (Lr.cur Rt_3.out HI3.out hk); have Xr0_4 := aM (Bx.cur Xr0_3.out HI3.out hk); have Xt_4 := aM (Bx.cur Xt_3.out HI3.out hk); have HI4 := aM hi; have HA4 := aM hb; have HZ3 := aM hk.1; clear HI3 HA3 Rt_3 Xr0_3 Xt_3; clear hi hb hk)) | ((with_reducible refine gate_dst (N := 18) rfl ?_); go_loud (refine Kd.R_lit Kd.string _ 9 ?hg (N := 18) ?hd (xs := ([(⟨#[]⟩ : ByteArray), (⟨#[49, 50, 51, 52, 53, 54, 55, 56, 57, 48, 49, 50, 51, 52, 53, 54, 55, 56, 57, 48, 49, 50, 51, 52, 53, 54, 55, 56, 57, 48, 49, 50, 51, 52, 53, 54, 55, 56, 57, 48, 49]⟩ : ByteArray)] : List ByteArray)) (inner := [.string (⟨#[]⟩ : ByteArray), .string (⟨#[49, 50, 51, 52, 53, 54, 55, 56, 57, 48, 49, 50, 51, 52, 53, 54, 55, 56, 57, 48, 49, 50, 51, 52, 53, 54, 55, 56, 57, 48, 49, 50, 51, 52, 53, 54, 55, 56, 57, 48, 49]⟩ : ByteArray)]) (ok := fun _ => True) (okp := fun _ => True) ?hr ?hp (fun _ hk => hk) trivial (Below.refl _ _) (Nat.le_refl _) (by simp) ?_; (case hd => rfl); (case hg => rfl); (case hr => first | (go_simp; done) | (go_simp; rfl)); (case hp => exact (Reps.one (show Kd.M Kd.string _ _ _ (⟨#[]⟩ : ByteArray) [.string (⟨#[]⟩ : ByteArray)] from rfl) (Reps.one (show Kd.M Kd.string _ _ _ (⟨#[49, 50, 51, 52, 53, 54, 55, 56, 57, 48, 49, 50, 51, 52, 53, 54, 55, 56, 57, 48, 49, 50, 51, 52, 53, 54, 55, 56, 57, 48, 49, 50, 51, 52, 53, 54, 55, 56, 57, 48, 49]⟩ : ByteArray) [.string (⟨#[49, 50, 51, 52, 53, 54, 55, 56, 57, 48, 49, 50, 51, 52, 53, 54, 55, 56, 57, 48, 49, 50, 51, 52, 53, 54, 55, 56, 57, 48, 49, 50, 51, 52, 53, 54, 55, 56, 57, 48, 49]⟩ : ByteArray)] from rfl) (Reps.none _ _)))); intro vl_k w5 ho hb hg_ hnew_; clear hg_ hnew_; have HOLk := aM ho; obtain ⟨Al_k, cl_k, el_⟩ := Kd.R_slice HOLk.out; subst el_; have Rt_5 := aM (Lr.below Rt_4.out hb); have Xr0_5 := aM (Bx.below Xr0_4.out hb); have Xt_5 := aM (Bx.below Xt_4.out hb); have HI5 := aM (IsS89.below HI4.out hb); have HA5 := aM (below_step HA4.out hb); have HZ4 := aM hb.size; clear HI4 HA4 Rt_4 Xr0_4 Xt_4; clear ho hb)) | (go_at_call 67; go_loud ((refine (spec_l1Cur_of.calls (w.heap.size + 1) l0 a3 s3 Al_k cl_k ([(⟨#[]⟩ : ByteArray), (⟨#[49, 50, 51, 52, 53, 54, 55, 56, 57, 48, 49, 50, 51, 52, 53, 54, 55, 56, 57, 48, 49, 50, 51, 52, 53, 54, 55, 56, 57, 48, 49, 50, 51, 52, 53, 54, 55, 56, 57, 48, 49]⟩ : ByteArray)] : List ByteArray) key2 a4 s4 w _ HI5.out HA5.out (Kd.R_reads' HOLk.out).2.2 (Kd.R_reads' HOLk.out).2.1 (far_slice (IsS89.own_ne HI5.out HOLk.out (by decide))) E4.out).mono ?_); rintro e w6 ⟨rfl, hi, hb, hk⟩; have Rt_6 := aM (Lr.cur Rt_5.out HI5.out hk); have Xr0_6 := aM (Bx.cur Xr0_5.out HI5.out hk); have Xt_6 := aM (Bx.cur Xt_5.out HI5.out hk); have HI6 := aM hi; have HA6 := aM hb; have HZ5 := aM hk.1; clear HI5 HA5 Rt_5 Xr0_5 Xt_5; clear hi hb hk)))
  obtain ⟨w7, hw⟩ : ∃ W_, W_ = w6.drew := ⟨_, rfl⟩
  have HD7 := aM hw
  have Rt_7 := aM (show Lr w7 w.heap.size _ _ by rw [hw]; exact Lr.drew Rt_6.out)
  have Xr0_7 := aM (show Bx w7 _ _ _ by rw [hw]; exact Bx.drew Xr0_6.out)
  have Xt_7 := aM (show Bx w7 _ _ _ by rw [hw]; exact Bx.drew Xt_6.out)
  have HI7 := aM (show IsS89 w w7 _ _ _ _ by rw [hw]; exact IsS89.drew HI6.out)
  have HA7 := aM (show Below w.heap.size w w7 by rw [hw]; exact HA6.out.drew)
  have HZ6 := aM (show w6.heap.size ≤ w7.heap.size by rw [hw]; exact Nat.le_refl _)
  clear HI6 HA6 Rt_6 Xr0_6 Xt_6
  clear hw
  refine start_ (n := 8) (S := fun w' => w'.cell? ⟨w1.heap.size, 0, none⟩ = some (.slice A_t L.length c_t)) (ds := []) #[false, false, false, false, false, false, false, false] (by kernel_rfl) rfl rfl ((HD7.out ▸ Bx.cell Xt_7.out)) (fun hHeld => ?_)
  rw [← HD7.out] at hHeld ⊢
  refine pure_ (i := 1) (N := some 21) (v := ?_) (a' := ?_) #[false, true, false, false, false, false, false, false] rfl rfl (by kernel_rfl) (fun _ _ _ h => h) (Or.inl ⟨by rfl, ?_⟩) ?_ ?_
  rotate_left
  ·
   intro w'
   go_simp
   with_reducible rfl
  rotate_left
  ·
   simp only [Act.put, zSA, zSB, zSC, i64_w, i32_w]
   rfl
  refine pure_ (i := 2) (N := some 22) (v := ?_) (a' := ?_) #[false, true, true, false, false, false, false, false] rfl rfl (by kernel_rfl) (fun _ _ _ h => h) (Or.inl ⟨by rfl, ?_⟩) ?_ ?_
  rotate_left
  ·
   intro w'
   go_simp
   with_reducible rfl
  rotate_left
  ·
   simp only [Act.put, zSA, zSB, zSC, i64_w, i32_w]
   rfl
  refine take_ (i := 0) (N := some 20) (v := ?_) (a' := ?_) #[true, true, true, false, false, false, false, false] rfl rfl (by kernel_rfl) (fun _ _ _ h => h) (Or.inl ⟨by rfl, ?_⟩) hHeld ?_ ?_
  rotate_left
  ·
   intro w' s0
   go_simp
   with_reducible rfl
  rotate_left
  ·
   simp only [Act.put, zSA, zSB, zSC, i64_w, i32_w]
   rfl
  refine one_ (i := 3) (N := some 23) #[true, true, true, true, false, false, false, false] rfl rfl (by kernel_rfl) (by decide) (fun K hK => ?_)
  refine Kd.R_lit_step Kd.string _ 9 (by rfl) (N := 23) rfl (xs := ([(⟨#[]⟩ : ByteArray), (⟨#[118]⟩ : ByteArray), (⟨#[110, 101, 119]⟩ : ByteArray)] : List ByteArray)) (inner := [.string (⟨#[]⟩ : ByteArray), .string (⟨#[118]⟩ : ByteArray), .string (⟨#[110, 101, 119]⟩ : ByteArray)]) (ok := fun _ => True) (okp := fun _ => True) ?hr ?hp (fun _ hk => hk) trivial (Below.refl _ _) (Nat.le_refl _) (by simp) ?_
  case hr => first | (go_simp; done) | (go_simp; rfl)
  case hp => exact (Reps.one (show Kd.M Kd.string _ _ _ (⟨#[]⟩ : ByteArray) [.string (⟨#[]⟩ : ByteArray)] from rfl) (Reps.one (show Kd.M Kd.string _ _ _ (⟨#[118]⟩ : ByteArray) [.string (⟨#[118]⟩ : ByteArray)] from rfl) (Reps.one (show Kd.M Kd.string _ _ _ (⟨#[110, 101, 119]⟩ : ByteArray) [.string (⟨#[110, 101, 119]⟩ : ByteArray)] from rfl) (Reps.none _ _))))
  intro vl_v w8 ho hb hg_ hnew_
  clear hg_ hnew_
  have HOLv := aM ho
  obtain ⟨Al_v, cl_v, el_⟩ := Kd.R_slice HOLv.out
  subst el_
  have Rt_8 := aM (Lr.below Rt_7.out hb)
  have Xr0_8 := aM (Bx.below Xr0_7.out hb)
  have Xt_8 := aM (Bx.below Xt_7.out hb)
  have HI8 := aM (IsS89.below HI7.out hb)
  have HA8 := aM (below_step HA7.out hb)
  have HZ7 := aM hb.size
  clear HI7 HA7 Rt_7 Xr0_7 Xt_7
  clear ho hb
  refine hK.out _ _ (Bx.cell Xt_8.out) (fun hHeld => ?_)
  clear hK K
  refine norm_ (a' := ?_) ?_ ?_
  rotate_left
  ·
   show Act.put _ (some 23) _ = _
   simp only [Act.put, zSA, zSB, zSC, i64_w, i32_w]
   rfl
  refine one_ (i := 4) (N := some 24) #[true, true, true, true, true, false, false, false] rfl rfl (by kernel_rfl) (by decide) (fun K hK => ?_)
  refine goes_ Try.func67 (by kernel_rfl) rfl #[.pointer (some ⟨w.heap.size + 1, 0, none⟩), .slice Al_v ([(⟨#[]⟩ : ByteArray), (⟨#[118]⟩ : ByteArray), (⟨#[110, 101, 119]⟩ : ByteArray)] : List ByteArray).length cl_v] (by rfl) rfl rfl (by simp only [List.map_toArray, List.map_cons, List.map_nil]; rfl) ?_
  with_reducible refine (spec_l1Cur_of.calls (w.heap.size + 1) l0 a4 s4 Al_v cl_v ([(⟨#[]⟩ : ByteArray), (⟨#[118]⟩ : ByteArray), (⟨#[110, 101, 119]⟩ : ByteArray)] : List ByteArray) val a5 s5 w _ HI8.out HA8.out (Kd.R_reads' HOLv.out).2.2 (Kd.R_reads' HOLv.out).2.1 (far_slice (IsS89.own_ne HI8.out HOLv.out (by decide))) E5.out).mono ?_
  rintro e w9 ⟨rfl, hi, hb, hk⟩
  refine ⟨_, rfl, ?_⟩
  have Rt_9 := aM (Lr.cur Rt_8.out HI8.out hk)
  have Xr0_9 := aM (Bx.cur Xr0_8.out HI8.out hk)
  have Xt_9 := aM (Bx.cur Xt_8.out HI8.out hk)
  have HI9 := aM hi
  have HA9 := aM hb
  have HZ8 := aM hk.1
  clear HI8 HA8 Rt_8 Xr0_8 Xt_8
  clear hi hb hk
  refine hK.out _ _ (Bx.cell Xt_9.out) (fun hHeld => ?_)
  clear hK K
  refine norm_ (a' := ?_) ?_ ?_
  rotate_left
  ·
   show Act.put _ (some 24) _ = _
   simp only [Act.put, zSA, zSB, zSC, i64_w, i32_w]
   rfl
  refine one_ (i := 5) (N := none) #[true, true, true, true, true, true, false, false] rfl rfl (by kernel_rfl) (by decide) (fun K hK => ?_)
  have hz0_ := Bx.cell Xr0_9.out
  have hzf_ := blk_frozen Xr0_9.out 0
  refine skip_ (w1 := ?_) (by rfl) rfl ?_ ?_
  rotate_left
  ·
   go_simp
   rfl
  obtain ⟨w10, hw⟩ : ∃ W_, W_ = w9.setCell ⟨w.heap.size, 0, none⟩ (.slice A_t L.length c_t) := ⟨_, rfl⟩
  rw [← hw]
  have hz_ := Xr0_9.out
  have Rt_10 := aM (show Lr w10 w.heap.size _ _ by rw [hw]; exact Lr.set Rt_9.out hz_ _)
  have Xr0_10 := aM (show Bx w10 _ _ _ by rw [hw]; exact Bx.put hz_ _)
  have Xt_10 := aM (show Bx w10 _ _ _ by rw [hw]; exact Bx.set Xt_9.out (by have := HS0.out; have := HZ0.out; have := HZ1.out; have := HZ2.out; have := HZ3.out; have := HZ4.out; have := HZ5.out; have := HZ6.out; have := HZ7.out; have := HZ8.out; have := HZZ1.out; omega) _)
  have HI10 := aM (show IsS89 w w10 _ _ _ _ by rw [hw]; exact IsS89.far HI9.out (IsS89.ne_blk HI9.out hz_ (by decide)) _)
  have HA10 := aM (show Below w.heap.size w w10 by rw [hw]; exact HA9.out.setCell (p := ⟨w.heap.size, 0, none⟩) (Nat.le_refl _) _)
  have HZ9 := aM (show w9.heap.size ≤ w10.heap.size by rw [hw]; simp [World.setCell])
  clear hz0_ hzf_ hz_ hw HI9 HA9 Rt_9 Xr0_9 Xt_9
  refine hK.out _ _ (Bx.cell Xt_10.out) (fun hHeld => ?_)
  clear hK K
  refine pure_ (i := 6) (N := some 3) (v := ?_) (a' := ?_) #[true, true, true, true, true, true, true, false] rfl rfl (by kernel_rfl) (fun _ _ _ h => h) (Or.inl ⟨by rfl, ?_⟩) ?_ ?_
  rotate_left
  ·
   intro w'
   go_simp
   with_reducible rfl
  rotate_left
  ·
   simp only [Act.put, zSA, zSB, zSC, i64_w, i32_w]
   rfl
  refine pure_ (i := 7) (N := some 4) (v := ?_) (a' := ?_) #[true, true, true, true, true, true, true, true] rfl rfl (by kernel_rfl) (fun _ _ _ h => h) (Or.inl ⟨by rfl, ?_⟩) ?_ ?_
  rotate_left
  ·
   intro w'
   go_simp
   with_reducible rfl
  rotate_left
  ·
   simp only [Act.put, zSA, zSB, zSC, i64_w, i32_w]
   rfl
  refine done_ (by kernel_rfl) ?_
  go_wp2
  refine bodyPost_ret (results_ctt rfl _ _ w.heap.size 29 #[.slice A_t L.length c_t] (0, 0) _ rfl Xr0_10.out Try.underlying29 rfl (by kernel_rfl)) rfl ?_
  exact ⟨_, rfl, Kd.R_mono Rt_10.out (fun _ _ => trivial), HA10.out⟩
 | false =>
  obtain ⟨val, a5, s5, e5, hm5, _⟩ := of_ev h a3 s3 ([(⟨#[]⟩ : ByteArray), (⟨#[118]⟩ : ByteArray), (⟨#[110, 101, 119]⟩ : ByteArray)] : List ByteArray) (by simp) (by omega) (by omega)
  refine ⟨L, key, val, hL, by omega, vals val hm5, fun A0 c0 w hr0 hc0 => ?_⟩
  have E3 := aM e3
  have E5 := aM e5
  clear h hev e1 e2 e3 e5 ha hb hz hL ha2 hb2 ha3 hb3 hm5 vals
  obtain ⟨wb0, hwb0⟩ : ∃ W, W = w.alloc (.cells #[.slice none 0 0] 29) := ⟨_, rfl⟩
  have HWB0 := aM hwb0
  obtain ⟨b0, hbA⟩ := one (w := w) (.slice none 0 0) 29
  rw [← hwb0] at b0 hbA
  have hsA : wb0.heap.size = w.heap.size + 1 := by rw [hwb0]; exact new_size _ _
  obtain ⟨w0, hw0⟩ : ∃ W, W = wb0.alloc (.cells #[.slice A0 l0.length c0, .int .i64 0, .int .u64 0] 89) := ⟨_, rfl⟩
  have HW0 := aM hw0
  have hI := IsS89.new w wb0 A0 c0 l0 0 0 hbA hr0
  rw [← hw0, hsA] at hI
  have HI0 := aM hI
  have HA0 := aM (show Below w.heap.size w w0 by rw [hw0]; exact below_alloc hbA _)
  have HS0 := aM (show w.heap.size + 2 ≤ w0.heap.size by rw [hw0, new_size, hsA]; exact Nat.le_refl _)
  have Xr0_0 := aM (show Bx w0 (w.heap.size) (.slice none 0 0) 29 by rw [hw0]; exact xblk_alloc b0 _)
  clear hw0 hI hsA hbA hr0 hc0 hwb0 b0
  go_enter Try.func42, Try.ntmps42
  go_upto_region 2 with (fail)
  rw [← HWB0.out, ← HW0.out]
  go_upto_region 3 with (first | (go_at_call 64; go_loud ((with_reducible refine (spec_l1Cur_treap.calls k1 (w.heap.size + 1) l0 0 0 L a1 s1 w _ HI0.out HA0.out E1.out).mono ?_); rintro e w1 ⟨v_t, rfl, ho, hi, hb, hk⟩; obtain ⟨A_t, c_t, e_t⟩ := Kd.R_slice ho; subst e_t; have Xr0_1 := aM (Bx.cur Xr0_0.out HI0.out hk); have HI1 := aM hi; have HA1 := aM hb; have HZ0 := aM hk.1; have Rt_1 := aM (Lr.of (lo := w.heap.size) ho HA0.out.size); clear HI0 HA0 Xr0_0; clear ho hi hb hk)))
  obtain ⟨w2, hw⟩ : ∃ W_, W_ = w1.alloc (.cells #[.slice A_t L.length c_t] 29) := ⟨_, rfl⟩
  rw [← hw]
  obtain ⟨q0, hb⟩ := one (w := w1) (.slice A_t L.length c_t) 29
  rw [← hw] at q0 hb
  have Rt_2 := aM (Lr.below Rt_1.out hb)
  have Xr0_2 := aM (Bx.below Xr0_1.out hb)
  have HI2 := aM (IsS89.below HI1.out hb)
  have HA2 := aM (below_step HA1.out hb)
  have HZ1 := aM hb.size
  clear HI1 HA1 Rt_1 Xr0_1
  have Xt_2 := aM q0
  have HZZ1 := aM (show w1.heap.size + 1 ≤ w2.heap.size by rw [hw, new_size]; exact Nat.le_refl _)
  clear hw q0 hb
  go_upto_region 6 with (first | (go_at_call 65; go_loud ((with_reducible refine (spec_l1Cur_treapKey.calls (w.heap.size + 1) l0 a1 s1 key a2 s2 w _ HI2.out HA2.out E2.out).mono ?_); rintro e w3 ⟨rfl, hi, hb, hk⟩; have Rt_3 := aM (Lr.cur Rt_2.out HI2.out hk); have Xr0_3 := aM (Bx.cur Xr0_2.out HI2.out hk); have Xt_3 := aM (Bx.cur Xt_2.out HI2.out hk); have HI3 := aM hi; have HA3 := aM hb; have HZ2 := aM hk.1; clear HI2 HA2 Rt_2 Xr0_2 Xt_2; clear hi hb hk)) | (go_at_call 66; go_loud ((with_reducible refine (spec_l1Cur_one.calls (w.heap.size + 1) l0 a2 s2 30 false a3 s3 w _ HI3.out HA3.out E3.out).mono ?_); rintro e w4 ⟨rfl, hi, hb, hk⟩; have Rt_4 := aM (Lr.cur Rt_3.out HI3.out hk); have Xr0_4 := aM (Bx.cur Xr0_3.out HI3.out hk); have Xt_4 := aM (Bx.cur Xt_3.out HI3.out hk); have HI4 := aM hi; have HA4 := aM hb; have HZ3 := aM hk.1; clear HI3 HA3 Rt_3 Xr0_3 Xt_3; clear hi hb hk)))
  obtain ⟨w5, hw⟩ : ∃ W_, W_ = w4.drew := ⟨_, rfl⟩
  have HD5 := aM hw
  have Rt_5 := aM (show Lr w5 w.heap.size _ _ by rw [hw]; exact Lr.drew Rt_4.out)
  have Xr0_5 := aM (show Bx w5 _ _ _ by rw [hw]; exact Bx.drew Xr0_4.out)
  have Xt_5 := aM (show Bx w5 _ _ _ by rw [hw]; exact Bx.drew Xt_4.out)
  have HI5 := aM (show IsS89 w w5 _ _ _ _ by rw [hw]; exact IsS89.drew HI4.out)
  have HA5 := aM (show Below w.heap.size w w5 by rw [hw]; exact HA4.out.drew)
  have HZ4 := aM (show w4.heap.size ≤ w5.heap.size by rw [hw]; exact Nat.le_refl _)
  clear HI4 HA4 Rt_4 Xr0_4 Xt_4
  clear hw
  refine start_ (n := 8) (S := fun w' => w'.cell? ⟨w1.heap.size, 0, none⟩ = some (.slice A_t L.length c_t)) (ds := []) #[false, false, false, false, false, false, false, false] (by kernel_rfl) rfl rfl ((HD5.out ▸ Bx.cell Xt_5.out)) (fun hHeld => ?_)
  rw [← HD5.out] at hHeld ⊢
  refine pure_ (i := 1) (N := some 21) (v := ?_) (a' := ?_) #[false, true, false, false, false, false, false, false] rfl rfl (by kernel_rfl) (fun _ _ _ h => h) (Or.inl ⟨by rfl, ?_⟩) ?_ ?_
  rotate_left
  ·
   intro w'
   go_simp
   with_reducible rfl
  rotate_left
  ·
   simp only [Act.put, zSA, zSB, zSC, i64_w, i32_w]
   rfl
  refine pure_ (i := 2) (N := some 22) (v := ?_) (a' := ?_) #[false, true, true, false, false, false, false, false] rfl rfl (by kernel_rfl) (fun _ _ _ h => h) (Or.inl ⟨by rfl, ?_⟩) ?_ ?_
  rotate_left
  ·
   intro w'
   go_simp
   with_reducible rfl
  rotate_left
  ·
   simp only [Act.put, zSA, zSB, zSC, i64_w, i32_w]
   rfl
  refine take_ (i := 0) (N := some 20) (v := ?_) (a' := ?_) #[true, true, true, false, false, false, false, false] rfl rfl (by kernel_rfl) (fun _ _ _ h => h) (Or.inl ⟨by rfl, ?_⟩) hHeld ?_ ?_
  rotate_left
  ·
   intro w' s0
   go_simp
   with_reducible rfl
  rotate_left
  ·
   simp only [Act.put, zSA, zSB, zSC, i64_w, i32_w]
   rfl
  refine one_ (i := 3) (N := some 23) #[true, true, true, true, false, false, false, false] rfl rfl (by kernel_rfl) (by decide) (fun K hK => ?_)
  refine Kd.R_lit_step Kd.string _ 9 (by rfl) (N := 23) rfl (xs := ([(⟨#[]⟩ : ByteArray), (⟨#[118]⟩ : ByteArray), (⟨#[110, 101, 119]⟩ : ByteArray)] : List ByteArray)) (inner := [.string (⟨#[]⟩ : ByteArray), .string (⟨#[118]⟩ : ByteArray), .string (⟨#[110, 101, 119]⟩ : ByteArray)]) (ok := fun _ => True) (okp := fun _ => True) ?hr ?hp (fun _ hk => hk) trivial (Below.refl _ _) (Nat.le_refl _) (by simp) ?_
  case hr => first | (go_simp; done) | (go_simp; rfl)
  case hp => exact (Reps.one (show Kd.M Kd.string _ _ _ (⟨#[]⟩ : ByteArray) [.string (⟨#[]⟩ : ByteArray)] from rfl) (Reps.one (show Kd.M Kd.string _ _ _ (⟨#[118]⟩ : ByteArray) [.string (⟨#[118]⟩ : ByteArray)] from rfl) (Reps.one (show Kd.M Kd.string _ _ _ (⟨#[110, 101, 119]⟩ : ByteArray) [.string (⟨#[110, 101, 119]⟩ : ByteArray)] from rfl) (Reps.none _ _))))
  intro vl_v w6 ho hb hg_ hnew_
  clear hg_ hnew_
  have HOLv := aM ho
  obtain ⟨Al_v, cl_v, el_⟩ := Kd.R_slice HOLv.out
  subst el_
  have Rt_6 := aM (Lr.below Rt_5.out hb)
  have Xr0_6 := aM (Bx.below Xr0_5.out hb)
  have Xt_6 := aM (Bx.below Xt_5.out hb)
  have HI6 := aM (IsS89.below HI5.out hb)
  have HA6 := aM (below_step HA5.out hb)
  have HZ5 := aM hb.size
  clear HI5 HA5 Rt_5 Xr0_5 Xt_5
  clear ho hb
  refine hK.out _ _ (Bx.cell Xt_6.out) (fun hHeld => ?_)
  clear hK K
  refine norm_ (a' := ?_) ?_ ?_
  rotate_left
  ·
   show Act.put _ (some 23) _ = _
   simp only [Act.put, zSA, zSB, zSC, i64_w, i32_w]
   rfl
  refine one_ (i := 4) (N := some 24) #[true, true, true, true, true, false, false, false] rfl rfl (by kernel_rfl) (by decide) (fun K hK => ?_)
  refine goes_ Try.func67 (by kernel_rfl) rfl #[.pointer (some ⟨w.heap.size + 1, 0, none⟩), .slice Al_v ([(⟨#[]⟩ : ByteArray), (⟨#[118]⟩ : ByteArray), (⟨#[110, 101, 119]⟩ : ByteArray)] : List ByteArray).length cl_v] (by rfl) rfl rfl (by simp only [List.map_toArray, List.map_cons, List.map_nil]; rfl) ?_
  with_reducible refine (spec_l1Cur_of.calls (w.heap.size + 1) l0 a3 s3 Al_v cl_v ([(⟨#[]⟩ : ByteArray), (⟨#[118]⟩ : ByteArray), (⟨#[110, 101, 119]⟩ : ByteArray)] : List ByteArray) val a5 s5 w _ HI6.out HA6.out (Kd.R_reads' HOLv.out).2.2 (Kd.R_reads' HOLv.out).2.1 (far_slice (IsS89.own_ne HI6.out HOLv.out (by decide))) E5.out).mono ?_
  rintro e w7 ⟨rfl, hi, hb, hk⟩
  refine ⟨_, rfl, ?_⟩
  have Rt_7 := aM (Lr.cur Rt_6.out HI6.out hk)
  have Xr0_7 := aM (Bx.cur Xr0_6.out HI6.out hk)
  have Xt_7 := aM (Bx.cur Xt_6.out HI6.out hk)
  have HI7 := aM hi
  have HA7 := aM hb
  have HZ6 := aM hk.1
  clear HI6 HA6 Rt_6 Xr0_6 Xt_6
  clear hi hb hk
  refine hK.out _ _ (Bx.cell Xt_7.out) (fun hHeld => ?_)
  clear hK K
  refine norm_ (a' := ?_) ?_ ?_
  rotate_left
  ·
   show Act.put _ (some 24) _ = _
   simp only [Act.put, zSA, zSB, zSC, i64_w, i32_w]
   rfl
  refine one_ (i := 5) (N := none) #[true, true, true, true, true, true, false, false] rfl rfl (by kernel_rfl) (by decide) (fun K hK => ?_)
  have hz0_ := Bx.cell Xr0_7.out
  have hzf_ := blk_frozen Xr0_7.out 0
  refine skip_ (w1 := ?_) (by rfl) rfl ?_ ?_
  rotate_left
  ·
   go_simp
   rfl
  obtain ⟨w8, hw⟩ : ∃ W_, W_ = w7.setCell ⟨w.heap.size, 0, none⟩ (.slice A_t L.length c_t) := ⟨_, rfl⟩
  rw [← hw]
  have hz_ := Xr0_7.out
  have Rt_8 := aM (show Lr w8 w.heap.size _ _ by rw [hw]; exact Lr.set Rt_7.out hz_ _)
  have Xr0_8 := aM (show Bx w8 _ _ _ by rw [hw]; exact Bx.put hz_ _)
  have Xt_8 := aM (show Bx w8 _ _ _ by rw [hw]; exact Bx.set Xt_7.out (by have := HS0.out; have := HZ0.out; have := HZ1.out; have := HZ2.out; have := HZ3.out; have := HZ4.out; have := HZ5.out; have := HZ6.out; have := HZZ1.out; omega) _)
  have HI8 := aM (show IsS89 w w8 _ _ _ _ by rw [hw]; exact IsS89.far HI7.out (IsS89.ne_blk HI7.out hz_ (by decide)) _)
  have HA8 := aM (show Below w.heap.size w w8 by rw [hw]; exact HA7.out.setCell (p := ⟨w.heap.size, 0, none⟩) (Nat.le_refl _) _)
  have HZ7 := aM (show w7.heap.size ≤ w8.heap.size by rw [hw]; simp [World.setCell])
  clear hz0_ hzf_ hz_ hw HI7 HA7 Rt_7 Xr0_7 Xt_7
  refine hK.out _ _ (Bx.cell Xt_8.out) (fun hHeld => ?_)
  clear hK K
  refine pure_ (i := 6) (N := some 3) (v := ?_) (a' := ?_) #[true, true, true, true, true, true, true, false] rfl rfl (by kernel_rfl) (fun _ _ _ h => h) (Or.inl ⟨by rfl, ?_⟩) ?_ ?_
  rotate_left
  ·
   intro w'
   go_simp
   with_reducible rfl
  rotate_left
  ·
   simp only [Act.put, zSA, zSB, zSC, i64_w, i32_w]
   rfl
  refine pure_ (i := 7) (N := some 4) (v := ?_) (a' := ?_) #[true, true, true, true, true, true, true, true] rfl rfl (by kernel_rfl) (fun _ _ _ h => h) (Or.inl ⟨by rfl, ?_⟩) ?_ ?_
  rotate_left
  ·
   intro w'
   go_simp
   with_reducible rfl
  rotate_left
  ·
   simp only [Act.put, zSA, zSB, zSC, i64_w, i32_w]
   rfl
  refine done_ (by kernel_rfl) ?_
  go_wp2
  refine bodyPost_ret (results_ctt rfl _ _ w.heap.size 29 #[.slice A_t L.length c_t] (0, 0) _ rfl Xr0_8.out Try.underlying29 rfl (by kernel_rfl)) rfl ?_
  exact ⟨_, rfl, Kd.R_mono Rt_8.out (fun _ _ => trivial), HA8.out⟩
end Go.Proofs.Ytjknkeipginpcaa.TrG
end

section
namespace Go.Proofs.Ytjknkeipginpcaa.LwFt
set_option linter.unusedVariables false
set_option linter.unusedSimpArgs false
open Go.RowKit Go.Proofs.Ytjknkeipginpcaa.PQ Go.Proofs.YtjknkeipginpcaaW.PrintWords Go.Proofs.YtjknkeipginpcaaW.PrintLast Go.Proofs.YtjknkeipginpcaaW.PrintMore Go.Proofs.Ytjknkeipginpcaa.Pre Go.Proofs.Ytjknkeipginpcaa.Tr Go.Proofs.Ytjknkeipginpcaa.Pr Go.Proofs.Ytjknkeipginpcaa.Po Go.Proofs.Ytjknkeipginpcaa.TrG Go.Proofs.Ytjknkeipginpcaa.Cur
set_option maxRecDepth 100000 in
set_option maxHeartbeats 8000000 in
theorem go (A1 A2 : Option Addr) (c1 c2 : Nat) (l1 l2 : List Int) (w0 : World) (L X U V : List Lb) (key val ck old : ByteArray) (gb ok had cb : Bool) (wk st dd os : Int) (k3 k4 k6 k7 k8 k9 k11 k14 k16 k17 k18 : Nat)
  (HR1 : Aside0 (Kd.C (Kd.int .u8) w0 A1 l1.length l1)) (HC1 : Aside0 (l1.length ≤ c1)) (HR2 : Aside0 (Kd.C (Kd.int .u8) w0 A2 l2.length l2)) (HC2 : Aside0 (l2.length ≤ c2)) (hbig : decide ((1048576 : Int) < wrap64 ((l1.length : Int) + (l2.length : Int))) = false)
  (HP1 : Aside0 (Froms 42 l1 L key val)) (HU2 : Aside0 (Gets 45 l2 U ck))
  (E2 : Aside0 (impl_PutKey.f L key val = some (X, ok))) (E3 : Aside0 (spec_PutKey.f k3 L key val = some (X, ok))) (E4 : Aside0 (laws_sameTreaps.f k4 X X = some true)) (E5 : Aside0 (impl_GoodTreap.f L = some gb)) (E6 : Aside0 (spec_GoodTreap.f k6 L = some gb)) (E7 : Aside0 (impl_WeightOf.f k7 key = some wk)) (E8 : Aside0 (spec_WeightOf.f k8 key = some wk))
  (hv1 : (val.toList == val.toList) = true) (hv2 : (val.toList != val.toList) = false) (EPF : ok = true → Aside0 (impl_GetKey.f k9 X key = some (val, st, true)) ∧ Aside0 (impl_DeepIn.f X = some (dd, true)) ∧ Aside0 (impl_GetKey.f k11 L key = some (old, os, had)) ∧ Aside0 (impl_GoodTreap.f X = some true) ∧ Aside0 ((had = true → impl_PutKey.f X key old = some (L, true)) ∧ (had = false → impl_CutKey.f X key = some (L, true))) ∧ Aside0 (laws_sameTreaps.f k14 L L = some true) ∧ Aside0 (decide (dd < st) = false))
  (E15 : Aside0 (impl_CutKey.f U ck = some (V, cb))) (E16 : Aside0 (spec_CutKey.f k16 U ck = some (V, cb))) (E17 : Aside0 (laws_sameTreaps.f k17 V V = some true)) (hU : (U.length : Int) ≤ 60) (ECT : cb = true → Aside0 (impl_GetKey.f k18 V ck = some (⟨#[]⟩, 0, false)) ∧ Aside0 (impl_GoodTreap.f V = some true) ∧ Aside0 (((V.length : Int) == (U.length : Int) - 1) = true)) (ECF : cb = false → Aside0 (((V.length : Int) == 0) = true)) :
  Calls Try.prog 12 #[.slice A1 l1.length c1, .slice A2 l2.length c2] w0 fun e w' => e = .returned (.bool true) ∧ Below w0.heap.size w0 w' := by
 have HA0 := aM (Below.refl w0.heap.size w0)
 have HWS := aM (Nat.le_refl w0.heap.size)
 have g1 : (gb == gb) = true := beq_self_eq_true _
 have g2 : (gb != gb) = false := by simp
 have g3 : (wk == wk) = true := beq_self_eq_true _
 have g4 : (wk != wk) = false := by simp
 have g5 : (ok == ok) = true := beq_self_eq_true _
 have g6 : (ok != ok) = false := by simp
 have g7 : (cb == cb) = true := beq_self_eq_true _
 have g8 : (cb != cb) = false := by simp
 go_enter Try.func12, Try.ntmps12
 go_upto_region 4 with (first | (go_at_call 42; go_loud ((with_reducible refine (HP1.out A1 c1 w0 HR1.out HC1.out).mono ?_); rintro e w1 ⟨v_T_, rfl, ho, hb⟩; have HA1 := aM (below_step HA0.out hb); have HZ0 := aM hb.size; have RG_T_ := aM (Rng.of ho); have hl_ := Lr.of (lo := w0.heap.size) ho HA0.out.size; obtain ⟨A_T_, c_T_, e_T_⟩ := Lr.slice hl_; subst e_T_; have T_1 := aM hl_; clear hl_ ho; clear HA0; clear hb; obtain ⟨w2, hw⟩ : ∃ W_, W_ = (w1.alloc (.cells #[.slice A_T_ L.length c_T_] 29)) := ⟨_, rfl⟩; have HW2 := aM hw; obtain ⟨q0, hb⟩ := one (w := w1) (.slice A_T_ L.length c_T_) 29; have hz2 : w1.heap.size + 1 ≤ w2.heap.size := (by rw [hw, new_size]; exact Nat.le_refl _); rw [← hw] at q0 hb; have HA2 := aM (below_step HA1.out hb); have T_2 := aM (Lr.below T_1.out hb); have HZ1 := aM hz2; clear HA1 T_1; have BT_2 := aM q0; clear hb hw hz2 q0; have cc_BT_ : w2.cell? ⟨w1.heap.size, 0, none⟩ = some (.slice A_T_ L.length c_T_) := Bx.cell BT_2.out)))
 rw [← HW2.out]
 go_upto_region 5 with (first | (go_at_call 41; go_loud ((with_reducible refine (impl_PutKey.calls A_T_ c_T_ L key val X ok _ (Lr.c T_2.out) (Lr.n T_2.out) E2.out).mono ?_); rintro e w3 ⟨v_X_, rfl, ho, hb⟩; have HA3 := aM (below_step HA2.out hb); have T_3 := aM (Lr.below T_2.out hb); have BT_3 := aM (Bx.below BT_2.out hb); have HZ2 := aM hb.size; have RG_X_ := aM (Rng.of ho); have hl_ := Lr.of (lo := w0.heap.size) ho HA2.out.size; obtain ⟨A_X_, c_X_, e_X_⟩ := Lr.slice hl_; subst e_X_; have X_3 := aM hl_; clear hl_ ho; clear HA2 T_2 BT_2; clear hb; clear cc_BT_; obtain ⟨w4, hw⟩ : ∃ W_, W_ = (w3.alloc (.cells #[.slice A_X_ X.length c_X_] 29)) := ⟨_, rfl⟩; have HW4 := aM hw; obtain ⟨q0, hb⟩ := one (w := w3) (.slice A_X_ X.length c_X_) 29; have hz2 : w3.heap.size + 1 ≤ w4.heap.size := (by rw [hw, new_size]; exact Nat.le_refl _); rw [← hw] at q0 hb; have HA4 := aM (below_step HA3.out hb); have T_4 := aM (Lr.below T_3.out hb); have X_4 := aM (Lr.below X_3.out hb); have BT_4 := aM (Bx.below BT_3.out hb); have HZ3 := aM hz2; clear HA3 T_3 X_3 BT_3; have BX_4 := aM q0; clear hb hw hz2 q0; have cc_BT_ : w4.cell? ⟨w1.heap.size, 0, none⟩ = some (.slice A_T_ L.length c_T_) := Bx.cell BT_4.out)))
 rw [← HW4.out]
 go_upto_region 6 with (first | (go_at_call 40; go_loud ((with_reducible refine (spec_PutKey.calls k3 A_T_ c_T_ L key val X ok _ (Lr.c T_4.out) (Lr.n T_4.out) E3.out).mono ?_); rintro e w5 ⟨v_Y_, rfl, ho, hb⟩; have HA5 := aM (below_step HA4.out hb); have T_5 := aM (Lr.below T_4.out hb); have X_5 := aM (Lr.below X_4.out hb); have BT_5 := aM (Bx.below BT_4.out hb); have BX_5 := aM (Bx.below BX_4.out hb); have HZ4 := aM hb.size; have RG_Y_ := aM (Rng.of ho); have hl_ := Lr.of (lo := w0.heap.size) ho HA4.out.size; obtain ⟨A_Y_, c_Y_, e_Y_⟩ := Lr.slice hl_; subst e_Y_; have Y_5 := aM hl_; clear hl_ ho; clear HA4 T_4 X_4 BT_4 BX_4; clear hb; clear cc_BT_; obtain ⟨w6, hw⟩ : ∃ W_, W_ = (w5.alloc (.cells #[.slice A_Y_ X.length c_Y_] 29)) := ⟨_, rfl⟩; have HW6 := aM hw; obtain ⟨q0, hb⟩ := one (w := w5) (.slice A_Y_ X.length c_Y_) 29; have hz2 : w5.heap.size + 1 ≤ w6.heap.size := (by rw [hw, new_size]; exact Nat.le_refl _); rw [← hw] at q0 hb; have HA6 := aM (below_step HA5.out hb); have T_6 := aM (Lr.below T_5.out hb); have X_6 := aM (Lr.below X_5.out hb); have Y_6 := aM (Lr.below Y_5.out hb); have BT_6 := aM (Bx.below BT_5.out hb); have BX_6 := aM (Bx.below BX_5.out hb); have HZ5 := aM hz2; clear HA5 T_5 X_5 Y_5 BT_5 BX_5; have BY_6 := aM q0; clear hb hw hz2 q0)))
 rw [← HW6.out]
 obtain ⟨w7, hw⟩ : ∃ W_, W_ = w6.drew := ⟨_, rfl⟩
 have HD7 := aM hw
 have hb : Below w6.heap.size w6 w7 := by rw [hw]; exact (Below.refl _ _).drew
 have HA7 := aM (below_step HA6.out hb)
 have T_7 := aM (Lr.below T_6.out hb)
 have X_7 := aM (Lr.below X_6.out hb)
 have Y_7 := aM (Lr.below Y_6.out hb)
 have BT_7 := aM (Bx.below BT_6.out hb)
 have BX_7 := aM (Bx.below BX_6.out hb)
 have BY_7 := aM (Bx.below BY_6.out hb)
 have HZ6 := aM hb.size
 clear HA6 T_6 X_6 Y_6 BT_6 BX_6 BY_6
 clear hb hw
 refine start_ (n := 23) (S := fun w' => w'.cell? ⟨w3.heap.size, 0, none⟩ = some (.slice A_X_ X.length c_X_) ∧ w'.cell? ⟨w5.heap.size, 0, none⟩ = some (.slice A_Y_ X.length c_Y_) ∧ w'.cell? ⟨w1.heap.size, 0, none⟩ = some (.slice A_T_ L.length c_T_)) (ds := []) #[false, false, false, false, false, false, false, false, false, false, false, false, false, false, false, false, false, false, false, false, false, false, false] (by kernel_rfl) rfl rfl ⟨(HD7.out ▸ Bx.cell BX_7.out), (HD7.out ▸ Bx.cell BY_7.out), (HD7.out ▸ Bx.cell BT_7.out)⟩ (fun hHeld => ?_)
 rw [← HD7.out] at hHeld ⊢
 refine pure_ (i := 0) (N := some 57) (v := ?_) (a' := ?_) #[true, false, false, false, false, false, false, false, false, false, false, false, false, false, false, false, false, false, false, false, false, false, false] rfl rfl (by kernel_rfl) (fun _ _ _ h => h) (Or.inl ⟨by rfl, ?_⟩) ?_ ?_
 rotate_left
 ·
  intro w'
  go_simp
  with_reducible rfl
 rotate_left
 ·
  simp only [Act.put, zSA, zSB, zSC, i64_w, i32_w]
  rfl
 refine pure_ (i := 1) (N := some 58) (v := ?_) (a' := ?_) #[true, true, false, false, false, false, false, false, false, false, false, false, false, false, false, false, false, false, false, false, false, false, false] rfl rfl (by kernel_rfl) (fun _ _ _ h => h) (Or.inl ⟨by rfl, ?_⟩) ?_ ?_
 rotate_left
 ·
  intro w'
  go_simp
  with_reducible rfl
 rotate_left
 ·
  simp only [Act.put, zSA, zSB, zSC, i64_w, i32_w]
  rfl
 refine pure_ (i := 2) (N := some 59) (v := ?_) (a' := ?_) #[true, true, true, false, false, false, false, false, false, false, false, false, false, false, false, false, false, false, false, false, false, false, false] rfl rfl (by kernel_rfl) (fun _ _ _ h => h) (Or.inl ⟨by rfl, ?_⟩) ?_ ?_
 rotate_left
 ·
  intro w'
  go_simp
  with_reducible rfl
 rotate_left
 ·
  simp only [Act.put, zSA, zSB, zSC, i64_w, i32_w]
  rfl
 refine pure_ (i := 3) (N := some 60) (v := ?_) (a' := ?_) #[true, true, true, true, false, false, false, false, false, false, false, false, false, false, false, false, false, false, false, false, false, false, false] rfl rfl (by kernel_rfl) (fun _ _ _ h => h) (Or.inl ⟨by rfl, ?_⟩) ?_ ?_
 rotate_left
 ·
  intro w'
  go_simp
  with_reducible rfl
 rotate_left
 ·
  simp only [Act.put, zSA, zSB, zSC, i64_w, i32_w]
  rfl
 refine take_ (i := 4) (N := some 61) (v := ?_) (a' := ?_) #[true, true, true, true, true, false, false, false, false, false, false, false, false, false, false, false, false, false, false, false, false, false, false] rfl rfl (by kernel_rfl) (fun _ _ _ h => h) (Or.inl ⟨by rfl, ?_⟩) hHeld ?_ ?_
 rotate_left
 ·
  rintro w' ⟨s0, s1, s2⟩
  go_simp
  with_reducible rfl
 rotate_left
 ·
  simp only [Act.put, zSA, zSB, zSC, i64_w, i32_w]
  rfl
 refine take_ (i := 5) (N := some 62) (v := ?_) (a' := ?_) #[true, true, true, true, true, true, false, false, false, false, false, false, false, false, false, false, false, false, false, false, false, false, false] rfl rfl (by kernel_rfl) (fun _ _ _ h => h) (Or.inl ⟨by rfl, ?_⟩) hHeld ?_ ?_
 rotate_left
 ·
  rintro w' ⟨s0, s1, s2⟩
  go_simp
  with_reducible rfl
 rotate_left
 ·
  simp only [Act.put, zSA, zSB, zSC, i64_w, i32_w]
  rfl
 refine one_ (i := 6) (N := some 63) #[true, true, true, true, true, true, true, false, false, false, false, false, false, false, false, false, false, false, false, false, false, false, false] rfl rfl (by kernel_rfl) (by decide) (fun K hK => ?_)
 refine goes_ Try.func36 (by kernel_rfl) rfl #[.agg #[.slice A_X_ X.length c_X_], .agg #[.slice A_Y_ X.length c_Y_]] (by rfl) rfl rfl (by simp only [List.map_toArray, List.map_cons, List.map_nil]; rfl) ?_
 with_reducible refine (laws_sameTreaps.calls k4 A_X_ c_X_ X A_Y_ c_Y_ X true _ (Lr.c X_7.out) (Lr.n X_7.out) (Lr.c Y_7.out) (Lr.n Y_7.out) E4.out).mono ?_
 rintro e w8 ⟨rfl, hb⟩
 refine ⟨_, rfl, ?_⟩
 have HA8 := aM (below_step HA7.out hb)
 have T_8 := aM (Lr.below T_7.out hb)
 have X_8 := aM (Lr.below X_7.out hb)
 have Y_8 := aM (Lr.below Y_7.out hb)
 have BT_8 := aM (Bx.below BT_7.out hb)
 have BX_8 := aM (Bx.below BX_7.out hb)
 have BY_8 := aM (Bx.below BY_7.out hb)
 have HZ7 := aM hb.size
 clear HA7 T_7 X_7 Y_7 BT_7 BX_7 BY_7
 clear hb
 refine hK.out _ _ ⟨Bx.cell BX_8.out, Bx.cell BY_8.out, Bx.cell BT_8.out⟩ (fun hHeld => ?_)
 clear hK K
 refine norm_ (a' := ?_) ?_ ?_
 rotate_left
 ·
  show Act.put _ (some 63) _ = _
  simp only [Act.put, zSA, zSB, zSC, i64_w, i32_w]
  rfl
 refine pure_ (i := 7) (N := some 64) (v := ?_) (a' := ?_) #[true, true, true, true, true, true, true, true, false, false, false, false, false, false, false, false, false, false, false, false, false, false, false] rfl rfl (by kernel_rfl) (fun _ _ _ h => h) (Or.inl ⟨by rfl, ?_⟩) ?_ ?_
 rotate_left
 ·
  intro w'
  go_simp
  with_reducible rfl
 rotate_left
 ·
  simp only [Act.put, zSA, zSB, zSC, i64_w, i32_w]
  rfl
 refine pure_ (i := 8) (N := some 65) (v := ?_) (a' := ?_) #[true, true, true, true, true, true, true, true, true, false, false, false, false, false, false, false, false, false, false, false, false, false, false] rfl rfl (by kernel_rfl) (fun _ _ _ h => h) (Or.inl ⟨by rfl, ?_⟩) ?_ ?_
 rotate_left
 ·
  intro w'
  go_simp
  with_reducible rfl
 rotate_left
 ·
  simp only [Act.put, zSA, zSB, zSC, i64_w, i32_w]
  rfl
 refine pure_ (i := 9) (N := some 66) (v := ?_) (a' := ?_) #[true, true, true, true, true, true, true, true, true, true, false, false, false, false, false, false, false, false, false, false, false, false, false] rfl rfl (by kernel_rfl) (fun _ _ _ h => h) (Or.inl ⟨by rfl, ?_⟩) ?_ ?_
 rotate_left
 ·
  intro w'
  go_simp
  with_reducible rfl
 rotate_left
 ·
  simp only [Act.put, zSA, zSB, zSC, i64_w, i32_w]
  rfl
 refine take_ (i := 10) (N := some 67) (v := ?_) (a' := ?_) #[true, true, true, true, true, true, true, true, true, true, true, false, false, false, false, false, false, false, false, false, false, false, false] rfl rfl (by kernel_rfl) (fun _ _ _ h => h) (Or.inl ⟨by rfl, ?_⟩) hHeld ?_ ?_
 rotate_left
 ·
  rintro w' ⟨s0, s1, s2⟩
  go_simp
  with_reducible rfl
 rotate_left
 ·
  simp only [Act.put, zSA, zSB, zSC, i64_w, i32_w]
  rfl
 refine take_ (i := 12) (N := some 69) (v := ?_) (a' := ?_) #[true, true, true, true, true, true, true, true, true, true, true, false, true, false, false, false, false, false, false, false, false, false, false] rfl rfl (by kernel_rfl) (fun _ _ _ h => h) (Or.inl ⟨by rfl, ?_⟩) hHeld ?_ ?_
 rotate_left
 ·
  rintro w' ⟨s0, s1, s2⟩
  go_simp
  with_reducible rfl
 rotate_left
 ·
  simp only [Act.put, zSA, zSB, zSC, i64_w, i32_w]
  rfl
 refine one_ (i := 11) (N := some 68) #[true, true, true, true, true, true, true, true, true, true, true, true, true, false, false, false, false, false, false, false, false, false, false] rfl rfl (by kernel_rfl) (by decide) (fun K hK => ?_)
 refine goes_ Try.func16 (by kernel_rfl) rfl #[.agg #[.slice A_T_ L.length c_T_]] (by rfl) rfl rfl (by simp only [List.map_toArray, List.map_cons, List.map_nil]; rfl) ?_
 with_reducible refine (impl_GoodTreap.calls A_T_ c_T_ L gb _ (Lr.c T_8.out) (Lr.n T_8.out) E5.out).mono ?_
 rintro e w9 ⟨rfl, hb⟩
 refine ⟨_, rfl, ?_⟩
 have HA9 := aM (below_step HA8.out hb)
 have T_9 := aM (Lr.below T_8.out hb)
 have X_9 := aM (Lr.below X_8.out hb)
 have Y_9 := aM (Lr.below Y_8.out hb)
 have BT_9 := aM (Bx.below BT_8.out hb)
 have BX_9 := aM (Bx.below BX_8.out hb)
 have BY_9 := aM (Bx.below BY_8.out hb)
 have HZ8 := aM hb.size
 clear HA8 T_8 X_8 Y_8 BT_8 BX_8 BY_8
 clear hb
 refine hK.out _ _ ⟨Bx.cell BX_9.out, Bx.cell BY_9.out, Bx.cell BT_9.out⟩ (fun hHeld => ?_)
 clear hK K
 refine norm_ (a' := ?_) ?_ ?_
 rotate_left
 ·
  show Act.put _ (some 68) _ = _
  simp only [Act.put, zSA, zSB, zSC, i64_w, i32_w]
  rfl
 refine one_ (i := 13) (N := some 70) #[true, true, true, true, true, true, true, true, true, true, true, true, true, true, false, false, false, false, false, false, false, false, false] rfl rfl (by kernel_rfl) (by decide) (fun K hK => ?_)
 refine goes_ Try.func14 (by kernel_rfl) rfl #[.agg #[.slice A_T_ L.length c_T_]] (by rfl) rfl rfl (by simp only [List.map_toArray, List.map_cons, List.map_nil]; rfl) ?_
 with_reducible refine (spec_GoodTreap.calls k6 A_T_ c_T_ L gb _ (Lr.c T_9.out) (Lr.n T_9.out) E6.out).mono ?_
 rintro e w10 ⟨rfl, hb⟩
 refine ⟨_, rfl, ?_⟩
 have HA10 := aM (below_step HA9.out hb)
 have T_10 := aM (Lr.below T_9.out hb)
 have X_10 := aM (Lr.below X_9.out hb)
 have Y_10 := aM (Lr.below Y_9.out hb)
 have BT_10 := aM (Bx.below BT_9.out hb)
 have BX_10 := aM (Bx.below BX_9.out hb)
 have BY_10 := aM (Bx.below BY_9.out hb)
 have HZ9 := aM hb.size
 clear HA9 T_9 X_9 Y_9 BT_9 BX_9 BY_9
 clear hb
 refine hK.out _ _ ⟨Bx.cell BX_10.out, Bx.cell BY_10.out, Bx.cell BT_10.out⟩ (fun hHeld => ?_)
 clear hK K
 refine norm_ (a' := ?_) ?_ ?_
 rotate_left
 ·
  show Act.put _ (some 70) _ = _
  simp only [Act.put, zSA, zSB, zSC, i64_w, i32_w]
  rfl
 refine pure_ (i := 14) (N := some 71) (v := ?_) (a' := ?_) #[true, true, true, true, true, true, true, true, true, true, true, true, true, true, true, false, false, false, false, false, false, false, false] rfl rfl (by kernel_rfl) (fun _ _ _ h => h) (Or.inl ⟨by rfl, ?_⟩) ?_ ?_
 rotate_left
 ·
  intro w'
  go_simp
  with_reducible rfl
 rotate_left
 ·
  simp only [Act.put, zSA, zSB, zSC, i64_w, i32_w]
  rfl
 refine pure_ (i := 15) (N := some 72) (v := ?_) (a' := ?_) #[true, true, true, true, true, true, true, true, true, true, true, true, true, true, true, true, false, false, false, false, false, false, false] rfl rfl (by kernel_rfl) (fun _ _ _ h => h) (Or.inl ⟨by rfl, ?_⟩) ?_ ?_
 rotate_left
 ·
  intro w'
  go_simp
  with_reducible rfl
 rotate_left
 ·
  simp only [Act.put, zSA, zSB, zSC, i64_w, i32_w]
  rfl
 refine pure_ (i := 16) (N := some 73) (v := ?_) (a' := ?_) #[true, true, true, true, true, true, true, true, true, true, true, true, true, true, true, true, true, false, false, false, false, false, false] rfl rfl (by kernel_rfl) (fun _ _ _ h => h) (Or.inl ⟨by rfl, ?_⟩) ?_ ?_
 rotate_left
 ·
  intro w'
  go_simp
  with_reducible rfl
 rotate_left
 ·
  simp only [Act.put, zSA, zSB, zSC, i64_w, i32_w]
  rfl
 refine pure_ (i := 17) (N := some 74) (v := ?_) (a' := ?_) #[true, true, true, true, true, true, true, true, true, true, true, true, true, true, true, true, true, true, false, false, false, false, false] rfl rfl (by kernel_rfl) (fun _ _ _ h => h) (Or.inl ⟨by rfl, ?_⟩) ?_ ?_
 rotate_left
 ·
  intro w'
  go_simp
  with_reducible rfl
 rotate_left
 ·
  simp only [Act.put, zSA, zSB, zSC, i64_w, i32_w]
  rfl
 refine pure_ (i := 19) (N := some 76) (v := ?_) (a' := ?_) #[true, true, true, true, true, true, true, true, true, true, true, true, true, true, true, true, true, true, false, true, false, false, false] rfl rfl (by kernel_rfl) (fun _ _ _ h => h) (Or.inl ⟨by rfl, ?_⟩) ?_ ?_
 rotate_left
 ·
  intro w'
  go_simp
  with_reducible rfl
 rotate_left
 ·
  simp only [Act.put, zSA, zSB, zSC, i64_w, i32_w]
  rfl
 refine one_ (i := 18) (N := some 75) #[true, true, true, true, true, true, true, true, true, true, true, true, true, true, true, true, true, true, true, true, false, false, false] rfl rfl (by kernel_rfl) (by decide) (fun K hK => ?_)
 refine goes_ Try.func43 (by kernel_rfl) rfl #[.string key] (by rfl) rfl rfl (by simp only [List.map_toArray, List.map_cons, List.map_nil]; rfl) ?_
 with_reducible refine (impl_WeightOf.calls k7 key wk _ E7.out).mono ?_
 rintro e w11 ⟨rfl, hd_⟩
 refine ⟨_, rfl, ?_⟩
 have hb := drawn_below hd_
 have HA11 := aM (below_step HA10.out hb)
 have T_11 := aM (Lr.below T_10.out hb)
 have X_11 := aM (Lr.below X_10.out hb)
 have Y_11 := aM (Lr.below Y_10.out hb)
 have BT_11 := aM (Bx.below BT_10.out hb)
 have BX_11 := aM (Bx.below BX_10.out hb)
 have BY_11 := aM (Bx.below BY_10.out hb)
 have HZ10 := aM hb.size
 clear HA10 T_10 X_10 Y_10 BT_10 BX_10 BY_10
 clear hb hd_
 refine hK.out _ _ ⟨Bx.cell BX_11.out, Bx.cell BY_11.out, Bx.cell BT_11.out⟩ (fun hHeld => ?_)
 clear hK K
 refine norm_ (a' := ?_) ?_ ?_
 rotate_left
 ·
  show Act.put _ (some 75) _ = _
  simp only [Act.put, zSA, zSB, zSC, i64_w, i32_w]
  rfl
 refine one_ (i := 20) (N := some 77) #[true, true, true, true, true, true, true, true, true, true, true, true, true, true, true, true, true, true, true, true, true, false, false] rfl rfl (by kernel_rfl) (by decide) (fun K hK => ?_)
 refine goes_ Try.func44 (by kernel_rfl) rfl #[.string key] (by rfl) rfl rfl (by simp only [List.map_toArray, List.map_cons, List.map_nil]; rfl) ?_
 with_reducible refine (spec_WeightOf.calls k8 key wk _ E8.out).mono ?_
 rintro e w12 ⟨rfl, hd_⟩
 refine ⟨_, rfl, ?_⟩
 have hb := drawn_below hd_
 have HA12 := aM (below_step HA11.out hb)
 have T_12 := aM (Lr.below T_11.out hb)
 have X_12 := aM (Lr.below X_11.out hb)
 have Y_12 := aM (Lr.below Y_11.out hb)
 have BT_12 := aM (Bx.below BT_11.out hb)
 have BX_12 := aM (Bx.below BX_11.out hb)
 have BY_12 := aM (Bx.below BY_11.out hb)
 have HZ11 := aM hb.size
 clear HA11 T_11 X_11 Y_11 BT_11 BX_11 BY_11
 clear hb hd_
 refine hK.out _ _ ⟨Bx.cell BX_12.out, Bx.cell BY_12.out, Bx.cell BT_12.out⟩ (fun hHeld => ?_)
 clear hK K
 refine norm_ (a' := ?_) ?_ ?_
 rotate_left
 ·
  show Act.put _ (some 77) _ = _
  simp only [Act.put, zSA, zSB, zSC, i64_w, i32_w]
  rfl
 refine pure_ (i := 21) (N := some 78) (v := ?_) (a' := ?_) #[true, true, true, true, true, true, true, true, true, true, true, true, true, true, true, true, true, true, true, true, true, true, false] rfl rfl (by kernel_rfl) (fun _ _ _ h => h) (Or.inl ⟨by rfl, ?_⟩) ?_ ?_
 rotate_left
 ·
  intro w'
  go_simp
  with_reducible rfl
 rotate_left
 ·
  simp only [Act.put, zSA, zSB, zSC, i64_w, i32_w]
  rfl
 refine pure_ (i := 22) (N := some 79) (v := ?_) (a' := ?_) #[true, true, true, true, true, true, true, true, true, true, true, true, true, true, true, true, true, true, true, true, true, true, true] rfl rfl (by kernel_rfl) (fun _ _ _ h => h) (Or.inl ⟨by rfl, ?_⟩) ?_ ?_
 rotate_left
 ·
  intro w'
  go_simp
  with_reducible rfl
 rotate_left
 ·
  simp only [Act.put, zSA, zSB, zSC, i64_w, i32_w]
  rfl
 refine done_ (by kernel_rfl) ?_
 go_upto_region 8 with (fail)
 cases ok with
 | true =>
  obtain ⟨E9, E10, E11, E12, E13, E14, HST⟩ := EPF rfl
  have hst := HST.out
  clear EPF HST
  have cc_BX_ : w12.cell? ⟨w3.heap.size, 0, none⟩ = some (.slice A_X_ X.length c_X_) := Bx.cell BX_12.out
  go_upto_region 9 with (fail)
  go_upto_region 10 with (first | (go_at_call 19; go_loud ((with_reducible refine (impl_GetKey.calls k9 A_X_ c_X_ X key val st true _ (Lr.c X_12.out) (Lr.n X_12.out) E9.out).mono ?_); rintro e w13 ⟨rfl, hb⟩; have HA13 := aM (below_step HA12.out hb); have T_13 := aM (Lr.below T_12.out hb); have X_13 := aM (Lr.below X_12.out hb); have BT_13 := aM (Bx.below BT_12.out hb); have BX_13 := aM (Bx.below BX_12.out hb); have HZ12 := aM hb.size; clear HA12 T_12 X_12 BT_12 BX_12; clear hb; clear cc_BX_; have cc_BX_ : w13.cell? ⟨w3.heap.size, 0, none⟩ = some (.slice A_X_ X.length c_X_) := Bx.cell BX_13.out)))
  go_upto_region 11 with (first | (go_at_call 21; go_loud ((with_reducible refine (impl_DeepIn.calls A_X_ c_X_ X dd true _ (Lr.c X_13.out) (Lr.n X_13.out) E10.out).mono ?_); rintro e w14 ⟨rfl, hb⟩; have HA14 := aM (below_step HA13.out hb); have T_14 := aM (Lr.below T_13.out hb); have X_14 := aM (Lr.below X_13.out hb); have BT_14 := aM (Bx.below BT_13.out hb); have BX_14 := aM (Bx.below BX_13.out hb); have HZ13 := aM hb.size; clear HA13 T_13 X_13 BT_13 BX_13; clear hb; clear cc_BX_; have cc_BT_ : w14.cell? ⟨w1.heap.size, 0, none⟩ = some (.slice A_T_ L.length c_T_) := Bx.cell BT_14.out)))
  go_upto_region 12 with (first | (go_at_call 19; go_loud ((with_reducible refine (impl_GetKey.calls k11 A_T_ c_T_ L key old os had _ (Lr.c T_14.out) (Lr.n T_14.out) E11.out).mono ?_); rintro e w15 ⟨rfl, hb⟩; have HA15 := aM (below_step HA14.out hb); have T_15 := aM (Lr.below T_14.out hb); have X_15 := aM (Lr.below X_14.out hb); have BT_15 := aM (Bx.below BT_14.out hb); have BX_15 := aM (Bx.below BX_14.out hb); have HZ14 := aM hb.size; clear HA14 T_14 X_14 BT_14 BX_14; clear hb; clear cc_BT_; have cc_BX_ : w15.cell? ⟨w3.heap.size, 0, none⟩ = some (.slice A_X_ X.length c_X_) := Bx.cell BX_15.out)))
  go_upto_region 14 with (first | (go_at_call 16; go_loud ((with_reducible refine (impl_GoodTreap.calls A_X_ c_X_ X true _ (Lr.c X_15.out) (Lr.n X_15.out) E12.out).mono ?_); rintro e w16 ⟨rfl, hb⟩; have HA16 := aM (below_step HA15.out hb); have T_16 := aM (Lr.below T_15.out hb); have X_16 := aM (Lr.below X_15.out hb); have BT_16 := aM (Bx.below BT_15.out hb); have BX_16 := aM (Bx.below BX_15.out hb); have HZ15 := aM hb.size; clear HA15 T_15 X_15 BT_15 BX_15; clear hb; clear cc_BX_; have cc_BX_ : w16.cell? ⟨w3.heap.size, 0, none⟩ = some (.slice A_X_ X.length c_X_) := Bx.cell BX_16.out)))
  go_upto_region 15 with (fail)
  obtain ⟨w17, hw⟩ : ∃ W_, W_ = (w16.alloc (.cells #[.slice A_X_ X.length c_X_] 29)) := ⟨_, rfl⟩
  have HW17 := aM hw
  obtain ⟨q0, hb⟩ := one (w := w16) (.slice A_X_ X.length c_X_) 29
  have hz2 : w16.heap.size + 1 ≤ w17.heap.size := (by rw [hw, new_size]; exact Nat.le_refl _)
  rw [← hw] at q0 hb
  have HA17 := aM (below_step HA16.out hb)
  have T_17 := aM (Lr.below T_16.out hb)
  have X_17 := aM (Lr.below X_16.out hb)
  have BT_17 := aM (Bx.below BT_16.out hb)
  have BX_17 := aM (Bx.below BX_16.out hb)
  have HZ16 := aM hz2
  clear HA16 T_16 X_16 BT_16 BX_16
  have BB_17 := aM q0
  clear hb hw hz2 q0
  rw [← HW17.out]
  clear cc_BX_
  have cc_BX_ : w17.cell? ⟨w3.heap.size, 0, none⟩ = some (.slice A_X_ X.length c_X_) := Bx.cell BX_17.out
  go_upto_region 16 with (fail)
  cases had with
  | true =>
   have E13 := aM (E13.out.1 rfl)
   go_upto_region 17 with (fail)
   go_upto_region 19 with (first | (go_at_call 41; go_loud ((with_reducible refine (impl_PutKey.calls A_X_ c_X_ X key old L true _ (Lr.c X_17.out) (Lr.n X_17.out) E13.out).mono ?_); rintro e w18 ⟨v_K_, rfl, ho, hb⟩; have HA18 := aM (below_step HA17.out hb); have T_18 := aM (Lr.below T_17.out hb); have X_18 := aM (Lr.below X_17.out hb); have BT_18 := aM (Bx.below BT_17.out hb); have BX_18 := aM (Bx.below BX_17.out hb); have BB_18 := aM (Bx.below BB_17.out hb); have HZ17 := aM hb.size; have RG_K_ := aM (Rng.of ho); have hl_ := Lr.of (lo := w0.heap.size) ho HA17.out.size; obtain ⟨A_K_, c_K_, e_K_⟩ := Lr.slice hl_; subst e_K_; have K_18 := aM hl_; clear hl_ ho; clear HA17 T_17 X_17 BT_17 BX_17 BB_17; clear hb; clear cc_BX_; have zz_ : w18.cell? ⟨w16.heap.size, 0, none⟩ = some (.slice A_X_ X.length c_X_) := Bx.cell BB_18.out; have zf_ : w18.frozen? ⟨w16.heap.size, 0, none⟩ = false := blk_frozen BB_18.out 0)))
   obtain ⟨w19, hw⟩ : ∃ W_, W_ = w18.setCell ⟨w16.heap.size, 0, none⟩ (.slice A_K_ L.length c_K_) := ⟨_, rfl⟩
   rw [← hw]
   have hz_ := BB_18.out
   have HA19 := aM (show Below w0.heap.size w0 w19 by rw [hw]; exact HA18.out.setCell (p := ⟨w16.heap.size, 0, none⟩) (show w0.heap.size ≤ w16.heap.size by have := HWS.out; have := HZ0.out; have := HZ1.out; have := HZ2.out; have := HZ3.out; have := HZ4.out; have := HZ5.out; have := HZ6.out; have := HZ7.out; have := HZ8.out; have := HZ9.out; have := HZ10.out; have := HZ11.out; have := HZ12.out; have := HZ13.out; have := HZ14.out; have := HZ15.out; have := HZ16.out; have := HZ17.out; omega) _)
   have T_19 := aM (show Lr w19 w0.heap.size _ _ by rw [hw]; exact Lr.set T_18.out hz_ _)
   have X_19 := aM (show Lr w19 w0.heap.size _ _ by rw [hw]; exact Lr.set X_18.out hz_ _)
   have K_19 := aM (show Lr w19 w0.heap.size _ _ by rw [hw]; exact Lr.set K_18.out hz_ _)
   have BT_19 := aM (show Bx w19 _ _ _ by rw [hw]; exact Bx.set BT_18.out (by have := HWS.out; have := HZ0.out; have := HZ1.out; have := HZ2.out; have := HZ3.out; have := HZ4.out; have := HZ5.out; have := HZ6.out; have := HZ7.out; have := HZ8.out; have := HZ9.out; have := HZ10.out; have := HZ11.out; have := HZ12.out; have := HZ13.out; have := HZ14.out; have := HZ15.out; have := HZ16.out; have := HZ17.out; omega) _)
   have BX_19 := aM (show Bx w19 _ _ _ by rw [hw]; exact Bx.set BX_18.out (by have := HWS.out; have := HZ0.out; have := HZ1.out; have := HZ2.out; have := HZ3.out; have := HZ4.out; have := HZ5.out; have := HZ6.out; have := HZ7.out; have := HZ8.out; have := HZ9.out; have := HZ10.out; have := HZ11.out; have := HZ12.out; have := HZ13.out; have := HZ14.out; have := HZ15.out; have := HZ16.out; have := HZ17.out; omega) _)
   have BB_19 := aM (show Bx w19 w16.heap.size (.slice A_K_ L.length c_K_) 29 by rw [hw]; exact Bx.put hz_ _)
   have HZ18 := aM (show w18.heap.size ≤ w19.heap.size by rw [hw]; simp [World.setCell])
   clear zz_ zf_ hz_ hw HA18 T_18 X_18 K_18 BT_18 BX_18 BB_18
   have cc_BB_ : w19.cell? ⟨w16.heap.size, 0, none⟩ = some (.slice A_K_ L.length c_K_) := Bx.cell BB_19.out
   have cc_BT_ : w19.cell? ⟨w1.heap.size, 0, none⟩ = some (.slice A_T_ L.length c_T_) := Bx.cell BT_19.out
   go_upto_region 21 with (first | (go_at_call 36; go_loud ((with_reducible refine (laws_sameTreaps.calls k14 A_K_ c_K_ L A_T_ c_T_ L true _ (Lr.c K_19.out) (Lr.n K_19.out) (Lr.c T_19.out) (Lr.n T_19.out) E14.out).mono ?_); rintro e w20 ⟨rfl, hb⟩; have HA20 := aM (below_step HA19.out hb); have T_20 := aM (Lr.below T_19.out hb); have X_20 := aM (Lr.below X_19.out hb); have K_20 := aM (Lr.below K_19.out hb); have BT_20 := aM (Bx.below BT_19.out hb); have BX_20 := aM (Bx.below BX_19.out hb); have BB_20 := aM (Bx.below BB_19.out hb); have HZ19 := aM hb.size; clear HA19 T_19 X_19 K_19 BT_19 BX_19 BB_19; clear hb; clear cc_BB_ cc_BT_)))
   go_upto_region 22 with (first | (go_at_call 45; go_loud ((with_reducible refine (HU2.out A2 c2 _ (Kd.C_below HR2.out HA20.out) HC2.out).mono ?_); rintro e w21 ⟨v_U_, rfl, ho, hb⟩; have HA21 := aM (below_step HA20.out hb); have HZ20 := aM hb.size; have RG_U_ := aM (Rng.of ho); have hl_ := Lr.of (lo := w0.heap.size) ho HA20.out.size; obtain ⟨A_U_, c_U_, e_U_⟩ := Lr.slice hl_; subst e_U_; have U_21 := aM hl_; clear hl_ ho; clear HA20; clear hb; obtain ⟨w22, hw⟩ : ∃ W_, W_ = (w21.alloc (.cells #[.slice A_U_ U.length c_U_] 29)) := ⟨_, rfl⟩; have HW22 := aM hw; obtain ⟨q0, hb⟩ := one (w := w21) (.slice A_U_ U.length c_U_) 29; have hz2 : w21.heap.size + 1 ≤ w22.heap.size := (by rw [hw, new_size]; exact Nat.le_refl _); rw [← hw] at q0 hb; have HA22 := aM (below_step HA21.out hb); have U_22 := aM (Lr.below U_21.out hb); have HZ21 := aM hz2; clear HA21 U_21; have BU_22 := aM q0; clear hb hw hz2 q0; have cc_BU_ : w22.cell? ⟨w21.heap.size, 0, none⟩ = some (.slice A_U_ U.length c_U_) := Bx.cell BU_22.out)))
   rw [← HW22.out]
   go_upto_region 23 with (first | (go_at_call 34; go_loud ((with_reducible refine (impl_CutKey.calls A_U_ c_U_ U ck V cb _ (Lr.c U_22.out) (Lr.n U_22.out) E15.out).mono ?_); rintro e w23 ⟨v_V_, rfl, ho, hb⟩; have HA23 := aM (below_step HA22.out hb); have U_23 := aM (Lr.below U_22.out hb); have BU_23 := aM (Bx.below BU_22.out hb); have HZ22 := aM hb.size; have RG_V_ := aM (Rng.of ho); have hl_ := Lr.of (lo := w0.heap.size) ho HA22.out.size; obtain ⟨A_V_, c_V_, e_V_⟩ := Lr.slice hl_; subst e_V_; have V_23 := aM hl_; clear hl_ ho; clear HA22 U_22 BU_22; clear hb; clear cc_BU_; obtain ⟨w24, hw⟩ : ∃ W_, W_ = (w23.alloc (.cells #[.slice A_V_ V.length c_V_] 29)) := ⟨_, rfl⟩; have HW24 := aM hw; obtain ⟨q0, hb⟩ := one (w := w23) (.slice A_V_ V.length c_V_) 29; have hz2 : w23.heap.size + 1 ≤ w24.heap.size := (by rw [hw, new_size]; exact Nat.le_refl _); rw [← hw] at q0 hb; have HA24 := aM (below_step HA23.out hb); have U_24 := aM (Lr.below U_23.out hb); have V_24 := aM (Lr.below V_23.out hb); have BU_24 := aM (Bx.below BU_23.out hb); have HZ23 := aM hz2; clear HA23 U_23 V_23 BU_23; have BV_24 := aM q0; clear hb hw hz2 q0; have cc_BU_ : w24.cell? ⟨w21.heap.size, 0, none⟩ = some (.slice A_U_ U.length c_U_) := Bx.cell BU_24.out)))
   rw [← HW24.out]
   go_upto_region 24 with (first | (go_at_call 33; go_loud ((with_reducible refine (spec_CutKey.calls k16 A_U_ c_U_ U ck V cb _ (Lr.c U_24.out) (Lr.n U_24.out) E16.out).mono ?_); rintro e w25 ⟨v_Q_, rfl, ho, hb⟩; have HA25 := aM (below_step HA24.out hb); have U_25 := aM (Lr.below U_24.out hb); have V_25 := aM (Lr.below V_24.out hb); have BU_25 := aM (Bx.below BU_24.out hb); have BV_25 := aM (Bx.below BV_24.out hb); have HZ24 := aM hb.size; have RG_Q_ := aM (Rng.of ho); have hl_ := Lr.of (lo := w0.heap.size) ho HA24.out.size; obtain ⟨A_Q_, c_Q_, e_Q_⟩ := Lr.slice hl_; subst e_Q_; have Q_25 := aM hl_; clear hl_ ho; clear HA24 U_24 V_24 BU_24 BV_24; clear hb; clear cc_BU_; obtain ⟨w26, hw⟩ : ∃ W_, W_ = (w25.alloc (.cells #[.slice A_Q_ V.length c_Q_] 29)) := ⟨_, rfl⟩; have HW26 := aM hw; obtain ⟨q0, hb⟩ := one (w := w25) (.slice A_Q_ V.length c_Q_) 29; have hz2 : w25.heap.size + 1 ≤ w26.heap.size := (by rw [hw, new_size]; exact Nat.le_refl _); rw [← hw] at q0 hb; have HA26 := aM (below_step HA25.out hb); have U_26 := aM (Lr.below U_25.out hb); have V_26 := aM (Lr.below V_25.out hb); have Q_26 := aM (Lr.below Q_25.out hb); have BU_26 := aM (Bx.below BU_25.out hb); have BV_26 := aM (Bx.below BV_25.out hb); have HZ25 := aM hz2; clear HA25 U_25 V_25 Q_25 BU_25 BV_25; have BQ_26 := aM q0; clear hb hw hz2 q0; have cc_BV_ : w26.cell? ⟨w23.heap.size, 0, none⟩ = some (.slice A_V_ V.length c_V_) := Bx.cell BV_26.out; have cc_BQ_ : w26.cell? ⟨w25.heap.size, 0, none⟩ = some (.slice A_Q_ V.length c_Q_) := Bx.cell BQ_26.out)))
   rw [← HW26.out]
   go_upto_region 26 with (first | (go_at_call 36; go_loud ((with_reducible refine (laws_sameTreaps.calls k17 A_V_ c_V_ V A_Q_ c_Q_ V true _ (Lr.c V_26.out) (Lr.n V_26.out) (Lr.c Q_26.out) (Lr.n Q_26.out) E17.out).mono ?_); rintro e w27 ⟨rfl, hb⟩; have HA27 := aM (below_step HA26.out hb); have U_27 := aM (Lr.below U_26.out hb); have V_27 := aM (Lr.below V_26.out hb); have Q_27 := aM (Lr.below Q_26.out hb); have BU_27 := aM (Bx.below BU_26.out hb); have BV_27 := aM (Bx.below BV_26.out hb); have BQ_27 := aM (Bx.below BQ_26.out hb); have HZ26 := aM hb.size; clear HA26 U_26 V_26 Q_26 BU_26 BV_26 BQ_26; clear hb; clear cc_BV_ cc_BQ_; have cc_BV_ : w27.cell? ⟨w23.heap.size, 0, none⟩ = some (.slice A_V_ V.length c_V_) := Bx.cell BV_27.out)))
   cases cb with
   | true =>
    obtain ⟨E18, E19, HLN⟩ := ECT rfl
    have hlen := HLN.out
    clear HLN ECT ECF
    go_upto_region 28 with (fail)
    go_upto_region 29 with (first | (go_at_call 19; go_loud ((with_reducible refine (impl_GetKey.calls k18 A_V_ c_V_ V ck ⟨#[]⟩ 0 false _ (Lr.c V_27.out) (Lr.n V_27.out) E18.out).mono ?_); rintro e w28 ⟨rfl, hb⟩; have HA28 := aM (below_step HA27.out hb); have U_28 := aM (Lr.below U_27.out hb); have V_28 := aM (Lr.below V_27.out hb); have Q_28 := aM (Lr.below Q_27.out hb); have BU_28 := aM (Bx.below BU_27.out hb); have BV_28 := aM (Bx.below BV_27.out hb); have BQ_28 := aM (Bx.below BQ_27.out hb); have HZ27 := aM hb.size; clear HA27 U_27 V_27 Q_27 BU_27 BV_27 BQ_27; clear hb; clear cc_BV_; have cc_BV_ : w28.cell? ⟨w23.heap.size, 0, none⟩ = some (.slice A_V_ V.length c_V_) := Bx.cell BV_28.out)))
    go_wp2_with (first | (go_at_call 16; go_loud ((with_reducible refine (impl_GoodTreap.calls A_V_ c_V_ V true _ (Lr.c V_28.out) (Lr.n V_28.out) E19.out).mono ?_); rintro e w29 ⟨rfl, hb⟩; have HA29 := aM (below_step HA28.out hb); have U_29 := aM (Lr.below U_28.out hb); have V_29 := aM (Lr.below V_28.out hb); have Q_29 := aM (Lr.below Q_28.out hb); have BU_29 := aM (Bx.below BU_28.out hb); have BV_29 := aM (Bx.below BV_28.out hb); have BQ_29 := aM (Bx.below BQ_28.out hb); have HZ28 := aM hb.size; clear HA28 U_28 V_28 Q_28 BU_28 BV_28 BQ_28; clear hb; clear cc_BV_; have cc_BV_ : w29.cell? ⟨w23.heap.size, 0, none⟩ = some (.slice A_V_ V.length c_V_) := Bx.cell BV_29.out; have cc_BU_ : w29.cell? ⟨w21.heap.size, 0, none⟩ = some (.slice A_U_ U.length c_U_) := Bx.cell BU_29.out)))
    go_ret
    exact ⟨rfl, HA29.out⟩
   | false =>
    have HLN := ECF rfl
    have hlen := HLN.out
    clear HLN ECT ECF
    go_wp2_with (fail)
    go_ret
    exact ⟨rfl, HA27.out⟩
  | false =>
   have E13 := aM (E13.out.2 rfl)
   go_upto_region 18 with (fail)
   go_upto_region 19 with (first | (go_at_call 34; go_loud ((with_reducible refine (impl_CutKey.calls A_X_ c_X_ X key L true _ (Lr.c X_17.out) (Lr.n X_17.out) E13.out).mono ?_); rintro e w18 ⟨v_K_, rfl, ho, hb⟩; have HA18 := aM (below_step HA17.out hb); have T_18 := aM (Lr.below T_17.out hb); have X_18 := aM (Lr.below X_17.out hb); have BT_18 := aM (Bx.below BT_17.out hb); have BX_18 := aM (Bx.below BX_17.out hb); have BB_18 := aM (Bx.below BB_17.out hb); have HZ17 := aM hb.size; have RG_K_ := aM (Rng.of ho); have hl_ := Lr.of (lo := w0.heap.size) ho HA17.out.size; obtain ⟨A_K_, c_K_, e_K_⟩ := Lr.slice hl_; subst e_K_; have K_18 := aM hl_; clear hl_ ho; clear HA17 T_17 X_17 BT_17 BX_17 BB_17; clear hb; clear cc_BX_; have zz_ : w18.cell? ⟨w16.heap.size, 0, none⟩ = some (.slice A_X_ X.length c_X_) := Bx.cell BB_18.out; have zf_ : w18.frozen? ⟨w16.heap.size, 0, none⟩ = false := blk_frozen BB_18.out 0)))
   obtain ⟨w19, hw⟩ : ∃ W_, W_ = w18.setCell ⟨w16.heap.size, 0, none⟩ (.slice A_K_ L.length c_K_) := ⟨_, rfl⟩
   rw [← hw]
   have hz_ := BB_18.out
   have HA19 := aM (show Below w0.heap.size w0 w19 by rw [hw]; exact HA18.out.setCell (p := ⟨w16.heap.size, 0, none⟩) (show w0.heap.size ≤ w16.heap.size by have := HWS.out; have := HZ0.out; have := HZ1.out; have := HZ2.out; have := HZ3.out; have := HZ4.out; have := HZ5.out; have := HZ6.out; have := HZ7.out; have := HZ8.out; have := HZ9.out; have := HZ10.out; have := HZ11.out; have := HZ12.out; have := HZ13.out; have := HZ14.out; have := HZ15.out; have := HZ16.out; have := HZ17.out; omega) _)
   have T_19 := aM (show Lr w19 w0.heap.size _ _ by rw [hw]; exact Lr.set T_18.out hz_ _)
   have X_19 := aM (show Lr w19 w0.heap.size _ _ by rw [hw]; exact Lr.set X_18.out hz_ _)
   have K_19 := aM (show Lr w19 w0.heap.size _ _ by rw [hw]; exact Lr.set K_18.out hz_ _)
   have BT_19 := aM (show Bx w19 _ _ _ by rw [hw]; exact Bx.set BT_18.out (by have := HWS.out; have := HZ0.out; have := HZ1.out; have := HZ2.out; have := HZ3.out; have := HZ4.out; have := HZ5.out; have := HZ6.out; have := HZ7.out; have := HZ8.out; have := HZ9.out; have := HZ10.out; have := HZ11.out; have := HZ12.out; have := HZ13.out; have := HZ14.out; have := HZ15.out; have := HZ16.out; have := HZ17.out; omega) _)
   have BX_19 := aM (show Bx w19 _ _ _ by rw [hw]; exact Bx.set BX_18.out (by have := HWS.out; have := HZ0.out; have := HZ1.out; have := HZ2.out; have := HZ3.out; have := HZ4.out; have := HZ5.out; have := HZ6.out; have := HZ7.out; have := HZ8.out; have := HZ9.out; have := HZ10.out; have := HZ11.out; have := HZ12.out; have := HZ13.out; have := HZ14.out; have := HZ15.out; have := HZ16.out; have := HZ17.out; omega) _)
   have BB_19 := aM (show Bx w19 w16.heap.size (.slice A_K_ L.length c_K_) 29 by rw [hw]; exact Bx.put hz_ _)
   have HZ18 := aM (show w18.heap.size ≤ w19.heap.size by rw [hw]; simp [World.setCell])
   clear zz_ zf_ hz_ hw HA18 T_18 X_18 K_18 BT_18 BX_18 BB_18
   have cc_BB_ : w19.cell? ⟨w16.heap.size, 0, none⟩ = some (.slice A_K_ L.length c_K_) := Bx.cell BB_19.out
   have cc_BT_ : w19.cell? ⟨w1.heap.size, 0, none⟩ = some (.slice A_T_ L.length c_T_) := Bx.cell BT_19.out
   go_upto_region 21 with (first | (go_at_call 36; go_loud ((with_reducible refine (laws_sameTreaps.calls k14 A_K_ c_K_ L A_T_ c_T_ L true _ (Lr.c K_19.out) (Lr.n K_19.out) (Lr.c T_19.out) (Lr.n T_19.out) E14.out).mono ?_); rintro e w20 ⟨rfl, hb⟩; have HA20 := aM (below_step HA19.out hb); have T_20 := aM (Lr.below T_19.out hb); have X_20 := aM (Lr.below X_19.out hb); have K_20 := aM (Lr.below K_19.out hb); have BT_20 := aM (Bx.below BT_19.out hb); have BX_20 := aM (Bx.below BX_19.out hb); have BB_20 := aM (Bx.below BB_19.out hb); have HZ19 := aM hb.size; clear HA19 T_19 X_19 K_19 BT_19 BX_19 BB_19; clear hb; clear cc_BB_ cc_BT_)))
   go_upto_region 22 with (first | (go_at_call 45; go_loud ((with_reducible refine (HU2.out A2 c2 _ (Kd.C_below HR2.out HA20.out) HC2.out).mono ?_); rintro e w21 ⟨v_U_, rfl, ho, hb⟩; have HA21 := aM (below_step HA20.out hb); have HZ20 := aM hb.size; have RG_U_ := aM (Rng.of ho); have hl_ := Lr.of (lo := w0.heap.size) ho HA20.out.size; obtain ⟨A_U_, c_U_, e_U_⟩ := Lr.slice hl_; subst e_U_; have U_21 := aM hl_; clear hl_ ho; clear HA20; clear hb; obtain ⟨w22, hw⟩ : ∃ W_, W_ = (w21.alloc (.cells #[.slice A_U_ U.length c_U_] 29)) := ⟨_, rfl⟩; have HW22 := aM hw; obtain ⟨q0, hb⟩ := one (w := w21) (.slice A_U_ U.length c_U_) 29; have hz2 : w21.heap.size + 1 ≤ w22.heap.size := (by rw [hw, new_size]; exact Nat.le_refl _); rw [← hw] at q0 hb; have HA22 := aM (below_step HA21.out hb); have U_22 := aM (Lr.below U_21.out hb); have HZ21 := aM hz2; clear HA21 U_21; have BU_22 := aM q0; clear hb hw hz2 q0; have cc_BU_ : w22.cell? ⟨w21.heap.size, 0, none⟩ = some (.slice A_U_ U.length c_U_) := Bx.cell BU_22.out)))
   rw [← HW22.out]
   go_upto_region 23 with (first | (go_at_call 34; go_loud ((with_reducible refine (impl_CutKey.calls A_U_ c_U_ U ck V cb _ (Lr.c U_22.out) (Lr.n U_22.out) E15.out).mono ?_); rintro e w23 ⟨v_V_, rfl, ho, hb⟩; have HA23 := aM (below_step HA22.out hb); have U_23 := aM (Lr.below U_22.out hb); have BU_23 := aM (Bx.below BU_22.out hb); have HZ22 := aM hb.size; have RG_V_ := aM (Rng.of ho); have hl_ := Lr.of (lo := w0.heap.size) ho HA22.out.size; obtain ⟨A_V_, c_V_, e_V_⟩ := Lr.slice hl_; subst e_V_; have V_23 := aM hl_; clear hl_ ho; clear HA22 U_22 BU_22; clear hb; clear cc_BU_; obtain ⟨w24, hw⟩ : ∃ W_, W_ = (w23.alloc (.cells #[.slice A_V_ V.length c_V_] 29)) := ⟨_, rfl⟩; have HW24 := aM hw; obtain ⟨q0, hb⟩ := one (w := w23) (.slice A_V_ V.length c_V_) 29; have hz2 : w23.heap.size + 1 ≤ w24.heap.size := (by rw [hw, new_size]; exact Nat.le_refl _); rw [← hw] at q0 hb; have HA24 := aM (below_step HA23.out hb); have U_24 := aM (Lr.below U_23.out hb); have V_24 := aM (Lr.below V_23.out hb); have BU_24 := aM (Bx.below BU_23.out hb); have HZ23 := aM hz2; clear HA23 U_23 V_23 BU_23; have BV_24 := aM q0; clear hb hw hz2 q0; have cc_BU_ : w24.cell? ⟨w21.heap.size, 0, none⟩ = some (.slice A_U_ U.length c_U_) := Bx.cell BU_24.out)))
   rw [← HW24.out]
   go_upto_region 24 with (first | (go_at_call 33; go_loud ((with_reducible refine (spec_CutKey.calls k16 A_U_ c_U_ U ck V cb _ (Lr.c U_24.out) (Lr.n U_24.out) E16.out).mono ?_); rintro e w25 ⟨v_Q_, rfl, ho, hb⟩; have HA25 := aM (below_step HA24.out hb); have U_25 := aM (Lr.below U_24.out hb); have V_25 := aM (Lr.below V_24.out hb); have BU_25 := aM (Bx.below BU_24.out hb); have BV_25 := aM (Bx.below BV_24.out hb); have HZ24 := aM hb.size; have RG_Q_ := aM (Rng.of ho); have hl_ := Lr.of (lo := w0.heap.size) ho HA24.out.size; obtain ⟨A_Q_, c_Q_, e_Q_⟩ := Lr.slice hl_; subst e_Q_; have Q_25 := aM hl_; clear hl_ ho; clear HA24 U_24 V_24 BU_24 BV_24; clear hb; clear cc_BU_; obtain ⟨w26, hw⟩ : ∃ W_, W_ = (w25.alloc (.cells #[.slice A_Q_ V.length c_Q_] 29)) := ⟨_, rfl⟩; have HW26 := aM hw; obtain ⟨q0, hb⟩ := one (w := w25) (.slice A_Q_ V.length c_Q_) 29; have hz2 : w25.heap.size + 1 ≤ w26.heap.size := (by rw [hw, new_size]; exact Nat.le_refl _); rw [← hw] at q0 hb; have HA26 := aM (below_step HA25.out hb); have U_26 := aM (Lr.below U_25.out hb); have V_26 := aM (Lr.below V_25.out hb); have Q_26 := aM (Lr.below Q_25.out hb); have BU_26 := aM (Bx.below BU_25.out hb); have BV_26 := aM (Bx.below BV_25.out hb); have HZ25 := aM hz2; clear HA25 U_25 V_25 Q_25 BU_25 BV_25; have BQ_26 := aM q0; clear hb hw hz2 q0; have cc_BV_ : w26.cell? ⟨w23.heap.size, 0, none⟩ = some (.slice A_V_ V.length c_V_) := Bx.cell BV_26.out; have cc_BQ_ : w26.cell? ⟨w25.heap.size, 0, none⟩ = some (.slice A_Q_ V.length c_Q_) := Bx.cell BQ_26.out)))
   rw [← HW26.out]
   go_upto_region 26 with (first | (go_at_call 36; go_loud ((with_reducible refine (laws_sameTreaps.calls k17 A_V_ c_V_ V A_Q_ c_Q_ V true _ (Lr.c V_26.out) (Lr.n V_26.out) (Lr.c Q_26.out) (Lr.n Q_26.out) E17.out).mono ?_); rintro e w27 ⟨rfl, hb⟩; have HA27 := aM (below_step HA26.out hb); have U_27 := aM (Lr.below U_26.out hb); have V_27 := aM (Lr.below V_26.out hb); have Q_27 := aM (Lr.below Q_26.out hb); have BU_27 := aM (Bx.below BU_26.out hb); have BV_27 := aM (Bx.below BV_26.out hb); have BQ_27 := aM (Bx.below BQ_26.out hb); have HZ26 := aM hb.size; clear HA26 U_26 V_26 Q_26 BU_26 BV_26 BQ_26; clear hb; clear cc_BV_ cc_BQ_; have cc_BV_ : w27.cell? ⟨w23.heap.size, 0, none⟩ = some (.slice A_V_ V.length c_V_) := Bx.cell BV_27.out)))
   cases cb with
   | true =>
    obtain ⟨E18, E19, HLN⟩ := ECT rfl
    have hlen := HLN.out
    clear HLN ECT ECF
    go_upto_region 28 with (fail)
    go_upto_region 29 with (first | (go_at_call 19; go_loud ((with_reducible refine (impl_GetKey.calls k18 A_V_ c_V_ V ck ⟨#[]⟩ 0 false _ (Lr.c V_27.out) (Lr.n V_27.out) E18.out).mono ?_); rintro e w28 ⟨rfl, hb⟩; have HA28 := aM (below_step HA27.out hb); have U_28 := aM (Lr.below U_27.out hb); have V_28 := aM (Lr.below V_27.out hb); have Q_28 := aM (Lr.below Q_27.out hb); have BU_28 := aM (Bx.below BU_27.out hb); have BV_28 := aM (Bx.below BV_27.out hb); have BQ_28 := aM (Bx.below BQ_27.out hb); have HZ27 := aM hb.size; clear HA27 U_27 V_27 Q_27 BU_27 BV_27 BQ_27; clear hb; clear cc_BV_; have cc_BV_ : w28.cell? ⟨w23.heap.size, 0, none⟩ = some (.slice A_V_ V.length c_V_) := Bx.cell BV_28.out)))
    go_wp2_with (first | (go_at_call 16; go_loud ((with_reducible refine (impl_GoodTreap.calls A_V_ c_V_ V true _ (Lr.c V_28.out) (Lr.n V_28.out) E19.out).mono ?_); rintro e w29 ⟨rfl, hb⟩; have HA29 := aM (below_step HA28.out hb); have U_29 := aM (Lr.below U_28.out hb); have V_29 := aM (Lr.below V_28.out hb); have Q_29 := aM (Lr.below Q_28.out hb); have BU_29 := aM (Bx.below BU_28.out hb); have BV_29 := aM (Bx.below BV_28.out hb); have BQ_29 := aM (Bx.below BQ_28.out hb); have HZ28 := aM hb.size; clear HA28 U_28 V_28 Q_28 BU_28 BV_28 BQ_28; clear hb; clear cc_BV_; have cc_BV_ : w29.cell? ⟨w23.heap.size, 0, none⟩ = some (.slice A_V_ V.length c_V_) := Bx.cell BV_29.out; have cc_BU_ : w29.cell? ⟨w21.heap.size, 0, none⟩ = some (.slice A_U_ U.length c_U_) := Bx.cell BU_29.out)))
    go_ret
    exact ⟨rfl, HA29.out⟩
   | false =>
    have HLN := ECF rfl
    have hlen := HLN.out
    clear HLN ECT ECF
    go_wp2_with (fail)
    go_ret
    exact ⟨rfl, HA27.out⟩
 | false =>
  clear EPF
  skip
  go_upto_region 21 with (fail)
  go_upto_region 22 with (first | (go_at_call 45; go_loud ((with_reducible refine (HU2.out A2 c2 _ (Kd.C_below HR2.out HA12.out) HC2.out).mono ?_); rintro e w13 ⟨v_U_, rfl, ho, hb⟩; have HA13 := aM (below_step HA12.out hb); have HZ12 := aM hb.size; have RG_U_ := aM (Rng.of ho); have hl_ := Lr.of (lo := w0.heap.size) ho HA12.out.size; obtain ⟨A_U_, c_U_, e_U_⟩ := Lr.slice hl_; subst e_U_; have U_13 := aM hl_; clear hl_ ho; clear HA12; clear hb; obtain ⟨w14, hw⟩ : ∃ W_, W_ = (w13.alloc (.cells #[.slice A_U_ U.length c_U_] 29)) := ⟨_, rfl⟩; have HW14 := aM hw; obtain ⟨q0, hb⟩ := one (w := w13) (.slice A_U_ U.length c_U_) 29; have hz2 : w13.heap.size + 1 ≤ w14.heap.size := (by rw [hw, new_size]; exact Nat.le_refl _); rw [← hw] at q0 hb; have HA14 := aM (below_step HA13.out hb); have U_14 := aM (Lr.below U_13.out hb); have HZ13 := aM hz2; clear HA13 U_13; have BU_14 := aM q0; clear hb hw hz2 q0; have cc_BU_ : w14.cell? ⟨w13.heap.size, 0, none⟩ = some (.slice A_U_ U.length c_U_) := Bx.cell BU_14.out)))
  rw [← HW14.out]
  go_upto_region 23 with (first | (go_at_call 34; go_loud ((with_reducible refine (impl_CutKey.calls A_U_ c_U_ U ck V cb _ (Lr.c U_14.out) (Lr.n U_14.out) E15.out).mono ?_); rintro e w15 ⟨v_V_, rfl, ho, hb⟩; have HA15 := aM (below_step HA14.out hb); have U_15 := aM (Lr.below U_14.out hb); have BU_15 := aM (Bx.below BU_14.out hb); have HZ14 := aM hb.size; have RG_V_ := aM (Rng.of ho); have hl_ := Lr.of (lo := w0.heap.size) ho HA14.out.size; obtain ⟨A_V_, c_V_, e_V_⟩ := Lr.slice hl_; subst e_V_; have V_15 := aM hl_; clear hl_ ho; clear HA14 U_14 BU_14; clear hb; clear cc_BU_; obtain ⟨w16, hw⟩ : ∃ W_, W_ = (w15.alloc (.cells #[.slice A_V_ V.length c_V_] 29)) := ⟨_, rfl⟩; have HW16 := aM hw; obtain ⟨q0, hb⟩ := one (w := w15) (.slice A_V_ V.length c_V_) 29; have hz2 : w15.heap.size + 1 ≤ w16.heap.size := (by rw [hw, new_size]; exact Nat.le_refl _); rw [← hw] at q0 hb; have HA16 := aM (below_step HA15.out hb); have U_16 := aM (Lr.below U_15.out hb); have V_16 := aM (Lr.below V_15.out hb); have BU_16 := aM (Bx.below BU_15.out hb); have HZ15 := aM hz2; clear HA15 U_15 V_15 BU_15; have BV_16 := aM q0; clear hb hw hz2 q0; have cc_BU_ : w16.cell? ⟨w13.heap.size, 0, none⟩ = some (.slice A_U_ U.length c_U_) := Bx.cell BU_16.out)))
  rw [← HW16.out]
  go_upto_region 24 with (first | (go_at_call 33; go_loud ((with_reducible refine (spec_CutKey.calls k16 A_U_ c_U_ U ck V cb _ (Lr.c U_16.out) (Lr.n U_16.out) E16.out).mono ?_); rintro e w17 ⟨v_Q_, rfl, ho, hb⟩; have HA17 := aM (below_step HA16.out hb); have U_17 := aM (Lr.below U_16.out hb); have V_17 := aM (Lr.below V_16.out hb); have BU_17 := aM (Bx.below BU_16.out hb); have BV_17 := aM (Bx.below BV_16.out hb); have HZ16 := aM hb.size; have RG_Q_ := aM (Rng.of ho); have hl_ := Lr.of (lo := w0.heap.size) ho HA16.out.size; obtain ⟨A_Q_, c_Q_, e_Q_⟩ := Lr.slice hl_; subst e_Q_; have Q_17 := aM hl_; clear hl_ ho; clear HA16 U_16 V_16 BU_16 BV_16; clear hb; clear cc_BU_; obtain ⟨w18, hw⟩ : ∃ W_, W_ = (w17.alloc (.cells #[.slice A_Q_ V.length c_Q_] 29)) := ⟨_, rfl⟩; have HW18 := aM hw; obtain ⟨q0, hb⟩ := one (w := w17) (.slice A_Q_ V.length c_Q_) 29; have hz2 : w17.heap.size + 1 ≤ w18.heap.size := (by rw [hw, new_size]; exact Nat.le_refl _); rw [← hw] at q0 hb; have HA18 := aM (below_step HA17.out hb); have U_18 := aM (Lr.below U_17.out hb); have V_18 := aM (Lr.below V_17.out hb); have Q_18 := aM (Lr.below Q_17.out hb); have BU_18 := aM (Bx.below BU_17.out hb); have BV_18 := aM (Bx.below BV_17.out hb); have HZ17 := aM hz2; clear HA17 U_17 V_17 Q_17 BU_17 BV_17; have BQ_18 := aM q0; clear hb hw hz2 q0; have cc_BV_ : w18.cell? ⟨w15.heap.size, 0, none⟩ = some (.slice A_V_ V.length c_V_) := Bx.cell BV_18.out; have cc_BQ_ : w18.cell? ⟨w17.heap.size, 0, none⟩ = some (.slice A_Q_ V.length c_Q_) := Bx.cell BQ_18.out)))
  rw [← HW18.out]
  go_upto_region 26 with (first | (go_at_call 36; go_loud ((with_reducible refine (laws_sameTreaps.calls k17 A_V_ c_V_ V A_Q_ c_Q_ V true _ (Lr.c V_18.out) (Lr.n V_18.out) (Lr.c Q_18.out) (Lr.n Q_18.out) E17.out).mono ?_); rintro e w19 ⟨rfl, hb⟩; have HA19 := aM (below_step HA18.out hb); have U_19 := aM (Lr.below U_18.out hb); have V_19 := aM (Lr.below V_18.out hb); have Q_19 := aM (Lr.below Q_18.out hb); have BU_19 := aM (Bx.below BU_18.out hb); have BV_19 := aM (Bx.below BV_18.out hb); have BQ_19 := aM (Bx.below BQ_18.out hb); have HZ18 := aM hb.size; clear HA18 U_18 V_18 Q_18 BU_18 BV_18 BQ_18; clear hb; clear cc_BV_ cc_BQ_; have cc_BV_ : w19.cell? ⟨w15.heap.size, 0, none⟩ = some (.slice A_V_ V.length c_V_) := Bx.cell BV_19.out)))
  cases cb with
  | true =>
   obtain ⟨E18, E19, HLN⟩ := ECT rfl
   have hlen := HLN.out
   clear HLN ECT ECF
   go_upto_region 28 with (fail)
   go_upto_region 29 with (first | (go_at_call 19; go_loud ((with_reducible refine (impl_GetKey.calls k18 A_V_ c_V_ V ck ⟨#[]⟩ 0 false _ (Lr.c V_19.out) (Lr.n V_19.out) E18.out).mono ?_); rintro e w20 ⟨rfl, hb⟩; have HA20 := aM (below_step HA19.out hb); have U_20 := aM (Lr.below U_19.out hb); have V_20 := aM (Lr.below V_19.out hb); have Q_20 := aM (Lr.below Q_19.out hb); have BU_20 := aM (Bx.below BU_19.out hb); have BV_20 := aM (Bx.below BV_19.out hb); have BQ_20 := aM (Bx.below BQ_19.out hb); have HZ19 := aM hb.size; clear HA19 U_19 V_19 Q_19 BU_19 BV_19 BQ_19; clear hb; clear cc_BV_; have cc_BV_ : w20.cell? ⟨w15.heap.size, 0, none⟩ = some (.slice A_V_ V.length c_V_) := Bx.cell BV_20.out)))
   go_wp2_with (first | (go_at_call 16; go_loud ((with_reducible refine (impl_GoodTreap.calls A_V_ c_V_ V true _ (Lr.c V_20.out) (Lr.n V_20.out) E19.out).mono ?_); rintro e w21 ⟨rfl, hb⟩; have HA21 := aM (below_step HA20.out hb); have U_21 := aM (Lr.below U_20.out hb); have V_21 := aM (Lr.below V_20.out hb); have Q_21 := aM (Lr.below Q_20.out hb); have BU_21 := aM (Bx.below BU_20.out hb); have BV_21 := aM (Bx.below BV_20.out hb); have BQ_21 := aM (Bx.below BQ_20.out hb); have HZ20 := aM hb.size; clear HA20 U_20 V_20 Q_20 BU_20 BV_20 BQ_20; clear hb; clear cc_BV_; have cc_BV_ : w21.cell? ⟨w15.heap.size, 0, none⟩ = some (.slice A_V_ V.length c_V_) := Bx.cell BV_21.out; have cc_BU_ : w21.cell? ⟨w13.heap.size, 0, none⟩ = some (.slice A_U_ U.length c_U_) := Bx.cell BU_21.out)))
   go_ret
   exact ⟨rfl, HA21.out⟩
  | false =>
   have HLN := ECF rfl
   have hlen := HLN.out
   clear HLN ECT ECF
   go_wp2_with (fail)
   go_ret
   exact ⟨rfl, HA19.out⟩
theorem goodS_ev (L : List Lb) : Evt (fun k => spec_GoodTreap.f k L) (ansP L).2 := by
 unfold spec_GoodTreap.f
 rcases both L with ⟨l, hg, h1, h2⟩ | ⟨h1, _, h2⟩
 ·
  rw [h1]; exact Evt.bind h2 (Evt.const _)
 ·
  rw [h1]; exact Evt.bind h2 (Evt.const _)
set_option maxRecDepth 100000 in
set_option maxHeartbeats 2000000 in
theorem calls (A1 : Option Addr) (c1 : Nat) (l1 : List Int) (A2 : Option Addr) (c2 : Nat) (l2 : List Int) (w : World) (hr1 : Kd.C (Kd.int .u8) w A1 l1.length l1) (hc1 : l1.length ≤ c1) (hf1 : ∀ x ∈ l1, (Lit.int .u8 x).wf = true) (hr2 : Kd.C (Kd.int .u8) w A2 l2.length l2) (hc2 : l2.length ≤ c2) (hf2 : ∀ x ∈ l2, (Lit.int .u8 x).wf = true) :
  Calls Try.prog 12 #[.slice A1 l1.length c1, .slice A2 l2.length c2] w fun e w' => e = .returned (.bool true) ∧ Below w.heap.size w w' := by
 by_cases hbig : (1048576 : Int) < wrap64 ((l1.length : Int) + (l2.length : Int))
 ·
  have hb2 : decide ((1048576 : Int) < wrap64 ((l1.length : Int) + (l2.length : Int))) = true := decide_eq_true hbig
  clear hr1 hc1 hf1 hr2 hc2 hf2 hbig
  go_enter Try.func12, Try.ntmps12
  go_wp2
  go_ret
  exact ⟨rfl, Below.refl _ _⟩
 ·
  have hb2 : decide ((1048576 : Int) < wrap64 ((l1.length : Int) + (l2.length : Int))) = false := decide_eq_false hbig
  obtain ⟨L, key, val, hL, hks, hvs, P1⟩ := drawPut (bytes_wf hf1)
  obtain ⟨U, ck, hU, _, U0⟩ := drawGet (bytes_wf hf2)
  have U2 := drawCut U0
  have h2 : impl_PutKey.f L key val = some (ansK L key val) := if_pos ⟨by omega, by omega, by omega⟩
  obtain ⟨k3, h3⟩ := (put_both L key val).ex
  have hXs := put_small L key val
  obtain ⟨X, ok, hkk⟩ : ∃ X ok, ansK L key val = (X, ok) := ⟨_, _, rfl⟩
  rw [hkk] at h2 h3 hXs
  have hXl : X.length ≤ 60 := hXs
  obtain ⟨k4, h4⟩ := (sameTreaps_ev X (by omega)).ex
  obtain ⟨k14, h14⟩ := (sameTreaps_ev L (by omega)).ex
  have h5 : impl_GoodTreap.f L = some (ansP L).2 := by
   unfold impl_GoodTreap.f
   rw [show impl_pairsOf.f L = some (ansP L) from if_pos (by omega)]
   rfl
  obtain ⟨k6, h6⟩ := (goodS_ev L).ex
  generalize (ansP L).2 = gb at h5 h6
  obtain ⟨k7, h7⟩ := (wtI_ev key (by omega)).ex
  obtain ⟨k8, h8⟩ := (wtS_ev key (by omega)).ex
  have h15 : impl_CutKey.f U ck = some (ansC U ck) := if_pos (by omega)
  obtain ⟨k16, h16⟩ := (cut_both U ck).ex
  have hVs := cut_small U ck
  obtain ⟨V, cb, hcc⟩ : ∃ V cb, ansC U ck = (V, cb) := ⟨_, _, rfl⟩
  rw [hcc] at h15 h16 hVs
  have hVl : V.length ≤ 60 := hVs
  obtain ⟨k17, h17⟩ := (sameTreaps_ev V (by omega)).ex
  have pf : ∃ (old : ByteArray) (had : Bool) (st dd os : Int) (k9 k11 : Nat), ok = true → Aside0 (impl_GetKey.f k9 X key = some (val, st, true)) ∧ Aside0 (impl_DeepIn.f X = some (dd, true)) ∧ Aside0 (impl_GetKey.f k11 L key = some (old, os, had)) ∧ Aside0 (impl_GoodTreap.f X = some true) ∧ Aside0 ((had = true → impl_PutKey.f X key old = some (L, true)) ∧ (had = false → impl_CutKey.f X key = some (L, true))) ∧ Aside0 (laws_sameTreaps.f k14 L L = some true) ∧ Aside0 (decide (dd < st) = false) := by
   cases ok with
   | false => exact ⟨⟨#[]⟩, false, 0, 0, 0, 0, 0, fun h => by cases h⟩
   | true =>
    obtain ⟨l, m, gL, gX, hin, hhad, hnot⟩ := put_facts hkk
    obtain ⟨st, hg9, hst0⟩ := good_in gX hin
    obtain ⟨k9, h9⟩ := hg9.ex
    have h12 := good_f gX (by omega)
    have hX0 : ¬ X.length = 0 := by
     rw [← gX.len]
     intro e
     rw [List.length_eq_zero_iff.1 e] at hin
     cases hin
    obtain ⟨dd, hdd⟩ : ∃ dd, dd = dp X X.length 0 := ⟨_, rfl⟩
    have h10 : impl_DeepIn.f X = some (dd, true) := by
     rw [show impl_DeepIn.f X = some (ansD X) from if_pos (by omega)]
     unfold ansD
     rw [ansP_good gX, if_pos rfl, if_neg hX0, hdd]
    have hst : decide (dd < st) = false := decide_eq_false (by omega)
    cases hk : hsk l key with
    | true =>
     obtain ⟨os, hg11, _⟩ := good_in gL (hsk_in hk)
     obtain ⟨k11, h11⟩ := hg11.ex
     have hold : (l.getD (plc l key) zKV).2.size ≤ 60 := (gL.ok _ (hsk_in hk)).2.2
     have h13 : impl_PutKey.f X key (l.getD (plc l key) zKV).2 = some (L, true) := by
      rw [← hhad hk]
      exact if_pos ⟨by omega, by omega, by omega⟩
     exact ⟨_, true, st, dd, os, k9, k11, fun _ => ⟨⟨h9⟩, ⟨h10⟩, ⟨h11⟩, ⟨h12⟩, ⟨⟨fun _ => h13, fun h => by cases h⟩⟩, ⟨h14⟩, ⟨hst⟩⟩⟩
    | false =>
     obtain ⟨k11, h11⟩ := (good_out gL (hsk_out gL.ri hk)).ex
     have h13 : impl_CutKey.f X key = some (L, true) := by
      rw [← hnot hk]
      exact if_pos (by omega)
     exact ⟨_, false, st, dd, 0, k9, k11, fun _ => ⟨⟨h9⟩, ⟨h10⟩, ⟨h11⟩, ⟨h12⟩, ⟨⟨fun h => (by cases h), fun _ => h13⟩⟩, ⟨h14⟩, ⟨hst⟩⟩⟩
  have cf : ∃ (k18 : Nat), cb = true → Aside0 (impl_GetKey.f k18 V ck = some (⟨#[]⟩, 0, false)) ∧ Aside0 (impl_GoodTreap.f V = some true) ∧ Aside0 (((V.length : Int) == (U.length : Int) - 1) = true) := by
   cases cb with
   | false => exact ⟨0, fun h => by cases h⟩
   | true =>
    obtain ⟨m2, gV, hno, hlen⟩ := cut_facts hcc
    obtain ⟨k18, h18⟩ := (good_out gV hno).ex
    exact ⟨k18, fun _ => ⟨⟨h18⟩, ⟨good_f gV (by omega)⟩, ⟨beq_iff_eq.2 (by omega)⟩⟩⟩
  have cn : cb = false → Aside0 (((V.length : Int) == 0) = true) := by
   rintro rfl
   exact ⟨beq_iff_eq.2 (by rw [cut_no hcc]; rfl)⟩
  obtain ⟨old, had, st, dd, os, k9, k11, EPF⟩ := pf
  obtain ⟨k18, ECT⟩ := cf
  exact go A1 A2 c1 c2 l1 l2 w L X U V key val ck old gb ok had cb (wt key) st dd os k3 k4 k6 k7 k8 k9 k11 k14 k16 k17 k18 ⟨hr1⟩ ⟨hc1⟩ ⟨hr2⟩ ⟨hc2⟩ hb2 ⟨P1⟩ ⟨U2⟩ ⟨h2⟩ ⟨h3⟩ ⟨h4⟩ ⟨h5⟩ ⟨h6⟩ ⟨h7⟩ ⟨h8⟩ (by simp) (by simp) EPF ⟨h15⟩ ⟨h16⟩ ⟨h17⟩ (by omega) ECT cn
end Go.Proofs.Ytjknkeipginpcaa.LwFt
end

section
namespace Go.Proofs.Ytjknkeipginpcaa.PQ
open Go.RowKit Go.Proofs.YtjknkeipginpcaaW.PrintWords Go.Proofs.YtjknkeipginpcaaW.PrintLast Go.Proofs.YtjknkeipginpcaaW.PrintMore
attribute [local go_sem] max2_int min2_int max_two min_two max_three min_three max_four min_four
set_option linter.unusedVariables false
set_option linter.unusedSimpArgs false
def laws_FnShape.Pure : Prop := True
theorem laws_FnShape.walk (P : laws_FnShape.Pure) (A0 : Option Addr) (c0 : Nat) (l0 : List Int) (A1 : Option Addr) (c1 : Nat) (l1 : List Int) (w : World) (hr0 : Kd.C (Kd.int .u8) w A0 l0.length l0) (hc0 : l0.length ≤ c0) (w0 : l0.length ≤ maxLen ∧ ∀ x_ ∈ l0, (Lit.int .u8 x_).wf = true) (hr1 : Kd.C (Kd.int .u8) w A1 l1.length l1) (hc1 : l1.length ≤ c1) (w1 : l1.length ≤ maxLen ∧ ∀ x_ ∈ l1, (Lit.int .u8 x_).wf = true) :
  Calls Try.prog 12 #[.slice A0 l0.length c0, .slice A1 l1.length c1] w fun e w' => e = .returned (.bool true) ∧ Below w.heap.size w w' :=
 LwFt.calls A0 c0 l0 A1 c1 l1 w hr0 hc0 w0.2 hr1 hc1 w1.2

end Go.Proofs.Ytjknkeipginpcaa.PQ
end

section
namespace Go.Proofs.Ytjknkeipginpcaa.Pure
open Go.Proofs.Ytjknkeipginpcaa.PQ
theorem FnShape : laws_FnShape.Pure := trivial
end Go.Proofs.Ytjknkeipginpcaa.Pure
end

/- Several texts in one: what the claim's last text rests on. No conditions. -/
import Derived.Test.YtaomjndfjmfelaaMWo5
import Derived.Test.YtaomjndfjmfelaaMWo14
import Derived.Lib.SliceRun
import Derived.Deep.RegionLaw
import Derived.Lib.Overlaps
import Derived.Lib.AppendZerosOnto
import Derived.Lib.AppendZeros
import Derived.Laws.Externs
import Derived.Laws.IdiomCopy
section
namespace Go.Proofs.Ytaomjndfjmfelaa.EnI
set_option linter.unusedVariables false
set_option linter.unusedSimpArgs false
open Go.RowKit Go.Proofs.Ytaomjndfjmfelaa.PQ Go.Proofs.YtaomjndfjmfelaaW.PrintWords Go.Proofs.YtaomjndfjmfelaaW.PrintLast Go.Proofs.YtaomjndfjmfelaaW.PrintMore Go.Proofs.Ytaomjndfjmfelaa.Pre Go.Proofs.Ytaomjndfjmfelaa.PostW
theorem at_new (w : World) (o : Obj) : (w.alloc o).heap[w.heap.size]? = some o := by
 show (w.heap.push o)[w.heap.size]? = some o
 simp
theorem xblk_drew {W : World} {b : Nat} {o : Obj} (h : W.heap[b]? = some o) : W.drew.heap[b]? = some o := h
theorem xblk_alloc {W : World} {b : Nat} {o : Obj} (h : W.heap[b]? = some o) (o2 : Obj) : (W.alloc o2).heap[b]? = some o := ((below_alloc (Below.refl W.heap.size W) o2).block b (blk_lt h)).trans h
/-- An entry's cells. -/
abbrev Pv := Value × Value
def One (p : Pv) : Prop := p.1.oneCell' = true ∧ p.2.oneCell' = true
def cel (p : Pv) : List Value := [p.1, p.2]
def cels (xs : List Pv) : List Value := xs.flatMap cel
theorem cels_cons (p : Pv) (xs : List Pv) : cels (p :: xs) = cel p ++ cels xs := rfl
theorem cels_app (xs ys : List Pv) : cels (xs ++ ys) = cels xs ++ cels ys := by simp [cels]
theorem cels_len : ∀ xs : List Pv, (cels xs).length = xs.length * 2
 | [] => rfl
 | p :: xs => by
  rw [cels_cons, List.length_append, cels_len xs, List.length_cons]
  show 2 + _ = _
  omega
theorem cels_take : ∀ (xs : List Pv) (i : Nat), (cels xs).take (i * 2) = cels (xs.take i)
 | [], i => by simp [cels]
 | p :: xs, 0 => by simp [cels]
 | p :: xs, i + 1 => by
  rw [cels_cons, List.take_succ_cons, cels_cons, ← cels_take xs i, List.take_append]
  have : (cel p).length = 2 := rfl
  rw [this, List.take_of_length_le (by rw [this]; omega), show (i + 1) * 2 - 2 = i * 2 by omega]
theorem cels_drop : ∀ (xs : List Pv) (i : Nat), (cels xs).drop (i * 2) = cels (xs.drop i)
 | [], i => by simp [cels]
 | p :: xs, 0 => by simp [cels]
 | p :: xs, i + 1 => by
  rw [cels_cons, List.drop_succ_cons, ← cels_drop xs i, List.drop_append]
  have : (cel p).length = 2 := rfl
  rw [this, List.drop_eq_nil_of_le (by rw [this]; omega), show (i + 1) * 2 - 2 = i * 2 by omega, List.nil_append]
theorem cels_one (xs : List Pv) (h : ∀ p ∈ xs, One p) : ∀ v ∈ cels xs, v.oneCell' = true := by
 intro v hv
 unfold cels at hv
 obtain ⟨p, hp0, hp⟩ := List.mem_flatMap.1 hv
 have h1 := h p hp0
 unfold cel at hp
 simp at hp
 rcases hp with rfl | rfl
 ·exact h1.1
 ·exact h1.2
def RR (w : World) (lo : Nat) (v : Value) (xs : List Pv) : Prop := (Kd.raw 2).R 102 w lo (fun _ => True) v (xs.map cel)
theorem reps_cels : ∀ (xs : List Pv) (R : List Value → List Value → Prop) (hR : ∀ x cs, R x cs → cs = x) (inner : List Value), Reps R 2 (xs.map cel) inner → inner = cels xs
 | [], R, hR, inner, h => List.eq_nil_of_length_eq_zero (by have := h.1; simpa using this)
 | p :: xs, R, hR, inner, h => by
  have h0 := hR _ _ (h.2 0 (cel p) rfl)
  have hl := h.1
  rw [List.map_cons, List.length_cons] at hl
  have ht := reps_cels xs R hR (inner.drop 2) ⟨by rw [List.length_drop, hl]; omega, fun j q hq => by
   have := h.2 (j + 1) q hq
   rw [List.drop_drop, show 2 + j * 2 = (j + 1) * 2 by omega]
   exact this⟩
  rw [Nat.zero_mul, List.drop_zero] at h0
  rw [cels_cons, ← h0, ← ht, List.take_append_drop]
theorem cels_reps (xs : List Pv) (h : ∀ p ∈ xs, One p) (R : List Value → List Value → Prop) (hR : ∀ x, x.length = 2 → (∀ u ∈ x, u.oneCell' = true) → R x x) : Reps R 2 (xs.map cel) (cels xs) := by
 refine ⟨by rw [cels_len, List.length_map], fun j p hj => ?_⟩
 rw [List.getElem?_map] at hj
 obtain ⟨q, hq, rfl⟩ := Option.map_eq_some_iff.1 hj
 obtain ⟨hjl, rfl⟩ := List.getElem?_eq_some_iff.1 hq
 rw [cels_drop, List.drop_eq_getElem_cons hjl, cels_cons]
 have h1 := h _ (List.getElem_mem hjl)
 refine hR _ rfl (fun u hu => ?_)
 have hu : u = (xs[j]).1 ∨ u = (xs[j]).2 := by simpa [cel] using hu
 rcases hu with rfl | rfl
 ·exact h1.1
 ·exact h1.2
/-- A row of entries of one's own, by its block. -/
theorem R_view {w : World} {lo g n c : Nat} {xs : List Pv} (h : RR w lo (.slice (some ⟨g, 0, none⟩) n c) xs) :
  n = xs.length ∧ lo ≤ g ∧ n ≤ c ∧ c ≤ maxLen ∧ ∃ cur : Array Value, w.heap[g]? = some (.cells cur 102 (0, 0)) ∧ cur.size = c * 2 ∧ cur.toList.take (n * 2) = cels xs := by
 obtain ⟨hn, _, _⟩ := Kd.R_reads' h
 rw [List.length_map] at hn
 subst hn
 obtain ⟨hok, inner, hown, hr⟩ := h
 rw [List.length_map] at hown
 rcases hown.2 with ⟨hv, _⟩ | ⟨g', cap', cur, hv, hb, hh, hnc, hcm, hcs, htake⟩
 ·cases hv
 injection hv with ha _ hc
 injection ha with ha
 injection ha with hg
 subst hg; subst hc
 exact ⟨rfl, hb, hnc, hcm, cur, hh, hcs, htake.trans (reps_cels xs _ (fun x cs h => h.1) inner hr)⟩
theorem R_made {w : World} {lo g c : Nat} {xs : List Pv} (h1 : ∀ p ∈ xs, One p) (hb : lo ≤ g) (hnc : xs.length ≤ c) (hcm : c ≤ maxLen) (cur : Array Value) (hh : w.heap[g]? = some (.cells cur 102 (0, 0))) (hcs : cur.size = c * 2) (ht : cur.toList.take (xs.length * 2) = cels xs) :
  RR w lo (.slice (some ⟨g, 0, none⟩) xs.length c) xs :=
 ⟨fun _ _ => trivial, cels xs, ⟨by rw [cels_len, List.length_map]; rfl, .inr ⟨g, c, cur, by rw [List.length_map], hb, hh, by rw [List.length_map]; exact hnc, hcm, hcs, by rw [List.length_map]; exact ht⟩⟩, cels_reps xs h1 _ (fun x h1 h2 => ⟨rfl, h1, h2⟩)⟩

theorem ones {xs : List Pv} {x : Pv} (h1 : ∀ p ∈ xs, One p) (hx : One x) (i : Nat) : ∀ p ∈ xs.take i ++ x :: xs.drop i, One p := by
 intro p hp
 rcases List.mem_append.1 hp with hp | hp
 ·exact h1 p (List.mem_of_mem_take hp)
 ·rcases List.mem_cons.1 hp with rfl | hp
  ·exact hx
  ·exact h1 p (List.mem_of_mem_drop hp)
section
variable {P : Program} {ops : Array Oper} {rest : List Oper} {o : Oper} {a : Act} {Q : Exit → Act → World → Prop} {Kc : Act → World → Prop}
theorem copy_known {W : World} (d s : Operand) (t t' : TypeId) (ho : o.op = .call { callee := .builtin .copy, args := #[d, s], argTypes := #[t, t'] }) (v u : Value) (hd : a.eval d = v) (hs : a.eval s = u) {v' : Value} {w' : World}
  (hr : (Builtin.copy_ #[t, t'] o.type #[v, u]).run P W = .ok v' w') (h : Kc (a.put o.dst v') w') : o.wp P a W Kc Q := by
 unfold Oper.wp execOp
 simp only [ho, resolve, invoke, builtin, Sem.run_bind, Sem.run_pure, Result.andThen_ok, List.map_toArray, List.map_cons, List.map_nil, hd, hs, hr]
 exact h
theorem copy_list {W : World} (hgd : o.guard = none) (d s : Operand) (t t' : TypeId) (ho : o.op = .call { callee := .builtin .copy, args := #[d, s], argTypes := #[t, t'] }) (v u : Value) (hd : a.eval d = v) (hs : a.eval s = u) {v' : Value} {w' : World}
  (hr : (Builtin.copy_ #[t, t'] o.type #[v, u]).run P W = .ok v' w') (h : wpList P ops Q rest (a.put o.dst v') w') : wpList P ops Q (o :: rest) a W :=
 wpList_plain hgd fun _ hK => copy_known d s t t' ho v u hd hs hr (hK _ _ h)
theorem copy_step {W : World} (hw : Region.wanted o (yielded ops a.tmps) = true) (d s : Operand) (t t' : TypeId) (ho : o.op = .call { callee := .builtin .copy, args := #[d, s], argTypes := #[t, t'] }) (v u : Value) (hd : a.eval d = v) (hs : a.eval s = u) {v' : Value} {w' : World}
  (hr : (Builtin.copy_ #[t, t'] o.type #[v, u]).run P W = .ok v' w') (h : Kc (a.put o.dst v') w') :
  if Region.wanted o (yielded ops a.tmps) = true then Oper.wp P o a W Kc Q else Kc (a.put o.dst undef) W := by
 rw [if_pos hw]
 exact copy_known d s t t' ho v u hd hs hr h
end
theorem copy_run (W : World) (ty : TypeId) (g o dLen dCap : Nat) (a : Addr) (sLen sCap : Nat) (cs : List Value) (hn : cs.length = Nat.min sLen dLen * 2)
  (hsrc : ∀ j v, cs[j]? = some v → W.cell? (a.add j) = some v) (hc : ∀ j, j < cs.length → (W.cell? ⟨g, o + j, none⟩).isSome = true) (hf : ∀ j, j < cs.length → W.frozen? ⟨g, o + j, none⟩ = false) (h1 : ∀ v ∈ cs, v.oneCell' = true) :
  (Builtin.copy_ #[31, 31] ty #[.slice (some ⟨g, o, none⟩) dLen dCap, .slice (some a) sLen sCap]).run Try.prog W = .ok (goInt (Nat.min sLen dLen)) (W.setCells g o cs) := by
 have hst := run_storeCells_cells (P := Try.prog) g o cs 0 W (by simpa using hc) (by simpa using hf) h1
 have hfc := run_firstCells_some (P := Try.prog) (w := W) 2 (Nat.min sLen dLen) a sLen sCap cs hn hsrc
 have hsz : ∀ w, (sizeOf 102).run Try.prog w = .ok 2 w := fun w => by kernel_rfl
 simp only [Nat.add_zero] at hst
 simp only [Builtin.copy_]
 simp [run_underlying Try.underlying31, Builtin.lenOf, hsz, hfc, hst]
/-- What the two copies leave. -/
theorem lists (T C v : List Value) (i n : Nat) (hi : i ≤ n) (hv : v.length = 2) (hC : C.length = n * 2) (hT : T.take (n * 2) = C) (hTl : (n + 1) * 2 ≤ T.length) :
  ((T.take ((i + 1) * 2) ++ C.drop (i * 2) ++ T.drop ((i + 1) * 2 + (C.drop (i * 2)).length)).take (i * 2) ++ v ++ (T.take ((i + 1) * 2) ++ C.drop (i * 2) ++ T.drop ((i + 1) * 2 + (C.drop (i * 2)).length)).drop (i * 2 + v.length)).take ((n + 1) * 2) = C.take (i * 2) ++ v ++ C.drop (i * 2) := by
 have e1 : (T.take ((i + 1) * 2) ++ C.drop (i * 2) ++ T.drop ((i + 1) * 2 + (C.drop (i * 2)).length)).take (i * 2) = C.take (i * 2) := by
  rw [List.append_assoc, List.take_append_of_le_length (by rw [List.length_take]; omega), List.take_take, Nat.min_eq_left (by omega), ← hT, List.take_take, Nat.min_eq_left (by omega)]
 have e2 : (T.take ((i + 1) * 2) ++ C.drop (i * 2) ++ T.drop ((i + 1) * 2 + (C.drop (i * 2)).length)).drop (i * 2 + v.length) = C.drop (i * 2) ++ T.drop ((i + 1) * 2 + (C.drop (i * 2)).length) := by
  rw [List.append_assoc, List.drop_left' (by rw [List.length_take, hv]; omega)]
 rw [e1, e2, ← List.append_assoc]
 exact List.take_left' (by rw [List.length_append, List.length_append, List.length_take, List.length_drop, hC, hv]; omega)
/-- .. and in a new row. -/
theorem lists2 (T C v : List Value) (i n : Nat) (hi : i ≤ n) (hv : v.length = 2) (hC : C.length = n * 2) (hT : T.take (i * 2) = C.take (i * 2)) (hTl : (n + 1) * 2 ≤ T.length) :
  ((T.take (i * 2) ++ v ++ T.drop (i * 2 + v.length)).take ((i + 1) * 2) ++ C.drop (i * 2) ++ (T.take (i * 2) ++ v ++ T.drop (i * 2 + v.length)).drop ((i + 1) * 2 + (C.drop (i * 2)).length)).take ((n + 1) * 2) = C.take (i * 2) ++ v ++ C.drop (i * 2) := by
 have e1 : (T.take (i * 2) ++ v ++ T.drop (i * 2 + v.length)).take ((i + 1) * 2) = C.take (i * 2) ++ v := by
  rw [List.take_left' (by rw [List.length_append, List.length_take, hv]; omega), hT]
 rw [e1]
 exact List.take_left' (by rw [List.length_append, List.length_append, List.length_take, List.length_drop, hC, hv]; omega)
theorem overlaps_no (w : World) (g vb o : Nat) (cur cv : Array Value) (hg : w.heap[g]? = some (.cells cur 102 (0, 0))) (hv : w.heap[vb]? = some (.cells cv 102 (0, 0))) (hne : vb ≠ g) (hc : cur.size ≠ 0) (m vc lb cb : Nat) :
  (callFunc 130 #[.slice (some ⟨vb, 0, none⟩) m vc, .slice (some ⟨g, o, none⟩) lb cb]).run Try.prog w = .ok (.value (.bool false)) w := by
 rw [run_callFunc_extern Try.func130 (by kernel_rfl) (by kernel_rfl) (by kernel_rfl) (e := Extern.SlicesOverlaps.overlaps #[31, 31] #[4]) (by kernel_rfl),
  Lib.run_overlaps_apart w 31 4 102 Try.underlying31 2 (fun w => by kernel_rfl) ⟨vb, 0, none⟩ ⟨g, o, none⟩ m vc lb cb hne 102 102 cv.size cur.size (by simp [World.shape?, hv]) (by simp [World.shape?, hg]) hc (blk_frozen hv 0) (blk_frozen hv _)]
 rfl
set_option maxHeartbeats 2000000 in
set_option maxRecDepth 100000 in
theorem ins_shift (lo g c i vb : Nat) (xs : List Pv) (x : Pv) (w : World) (hR : RR w lo (.slice (some ⟨g, 0, none⟩) xs.length c) xs) (h1s : ∀ p ∈ xs, One p) (h1x : One x) (hi : i < xs.length) (hroom : xs.length + 1 ≤ c) (hv : w.heap[vb]? = some (.cells #[x.1, x.2] 102 (0, 0))) (hvb : vb ≠ g) (hn : xs.length ≤ 1048576) :
  Calls Try.prog 82 #[.slice (some ⟨g, 0, none⟩) xs.length c, .int .i64 (i : Int), .slice (some ⟨vb, 0, none⟩) 1 1] w fun e w' => e = .returned (.slice (some ⟨g, 0, none⟩) (xs.length + 1) c) ∧ w' = (w.drew.setCells g ((i + 1) * 2) (cels (xs.drop i))).setCells g (i * 2) (cel x) := by
 obtain ⟨_, hlo, hnc, hcm, cur, hh, hcs, ht⟩ := R_view hR
 obtain ⟨n, hnn⟩ : ∃ n, n = xs.length := ⟨_, rfl⟩
 rw [← hnn] at hi hroom hn hnc ht ⊢
 have hdl : (cels (xs.drop i)).length = (n - i) * 2 := by rw [cels_len, List.length_drop, hnn]
 have hroomj : ∀ j, j < c * 2 → (w.cell? ⟨g, j, none⟩).isSome = true := fun j hj => by rw [blk_cell hh, Array.getElem?_eq_getElem (by omega)]; rfl
 have hsrc : ∀ j v, (cels (xs.drop i))[j]? = some v → w.cell? ((⟨g, i * 2, none⟩ : Addr).add j) = some v := fun j v hj => by
  have hjl : j < (n - i) * 2 := by have := (List.getElem?_eq_some_iff.1 hj).1; omega
  rw [← cels_drop, ← ht, List.drop_take, List.getElem?_take, if_pos (by omega), List.getElem?_drop] at hj
  rw [add_at, blk_cell hh, ← Array.getElem?_toList]
  exact hj
 have hcp1 : ∀ ty dc sc, (Builtin.copy_ #[31, 31] ty #[.slice (some ⟨g, (i + 1) * 2, none⟩) (n + 1 - (i + 1)) dc, .slice (some ⟨g, i * 2, none⟩) (n + 1 - i) sc]).run Try.prog w.drew = .ok (goInt (Nat.min (n + 1 - i) (n + 1 - (i + 1)))) (w.drew.setCells g ((i + 1) * 2) (cels (xs.drop i))) := fun ty dc sc =>
  copy_run w.drew ty g ((i + 1) * 2) (n + 1 - (i + 1)) dc ⟨g, i * 2, none⟩ (n + 1 - i) sc (cels (xs.drop i)) (by rw [hdl, show Nat.min (n + 1 - i) (n + 1 - (i + 1)) = n - i by simp only [Nat.min_def]; split <;> omega])
   hsrc (fun j hj => hroomj _ (by omega)) (fun j hj => blk_frozen hh _) (cels_one _ (fun p hp => h1s p (List.mem_of_mem_drop hp)))
 obtain ⟨cur1, h3, h4, h5⟩ := setCells_row (cels (xs.drop i)) ((i + 1) * 2) w.drew cur hh (by omega)
 obtain ⟨W1, hW1⟩ : ∃ W1, W1 = w.drew.setCells g ((i + 1) * 2) (cels (xs.drop i)) := ⟨_, rfl⟩
 rw [← hW1] at h3 hcp1
 have hv1 : W1.heap[vb]? = some (.cells #[x.1, x.2] 102 (0, 0)) := by rw [hW1]; exact (setCells_far _ _ vb hvb).trans hv
 have hcp2 : ∀ (W : World), W.heap[g]? = W1.heap[g]? → W.heap[vb]? = W1.heap[vb]? → ∀ ty dc, (Builtin.copy_ #[31, 31] ty #[.slice (some ⟨g, i * 2, none⟩) (n + 1 - i) dc, .slice (some ⟨vb, 0, none⟩) 1 1]).run Try.prog W = .ok (goInt (Nat.min 1 (n + 1 - i))) (W.setCells g (i * 2) (cel x)) := fun W hWg hWv ty dc =>
  copy_run W ty g (i * 2) (n + 1 - i) dc ⟨vb, 0, none⟩ 1 1 (cel x) (by rw [show Nat.min 1 (n + 1 - i) = 1 by simp only [Nat.min_def]; split <;> omega]; rfl)
   (fun j v hj => by rw [add_plain, blk_cell (hWv.trans hv1)]; simpa [cel] using hj) (fun j hj => by rw [blk_cell (hWg.trans h3), Array.getElem?_eq_getElem (by have : (cel x).length = 2 := rfl; omega)]; rfl) (fun j hj => blk_frozen (hWg.trans h3) _)
   (fun v hv => cels_one [x] (fun p hp => by rw [List.mem_singleton.1 hp]; exact h1x) v (by rw [cels_cons]; exact List.mem_append_left _ hv))
 have hov : ∀ o m vc lb cb, (callFunc 130 #[.slice (some ⟨vb, 0, none⟩) m vc, .slice (some ⟨g, o, none⟩) lb cb]).run Try.prog w = .ok (.value (.bool false)) w := fun o m vc lb cb => overlaps_no w g vb o cur _ hh hv hvb (by omega) m vc lb cb
 have HW1 := aM hW1
 have hz2 : ¬ ((i : Int) = (n : Int)) := by omega
 have hz3 : ¬ ((c : Int) < (n : Int) + 1) := by omega
 have hb1 : (0 : Int) ≤ (i : Int) + 1 := by omega
 have hb0 : (0 : Int) ≤ (n : Int) + 1 := by omega
 have hin : i ≤ n := by omega
 have htn : ((i : Int) + 1).toNat = i + 1 := by omega
 have htm : ((n : Int) + 1).toNat = n + 1 := by omega
 have hb2 : ¬ (c = i + 1) := by omega
 have hb3 : (i : Int) ≤ (n : Int) + 1 := by omega
 have hb5 : (i : Int) + 1 ≤ (n : Int) + 1 := by omega
 have hb6 : (n : Int) + 1 ≤ (c : Int) := by omega
 have hb4 : ¬ (c = i) := by omega
 have hw1 : IntKind.i64.wrap ((i : Int) + 1) = (i : Int) + 1 := by rw [IntKind.wrap_i64]; omega
 have hnb : (n : Int) ≤ 1048576 := by omega
 have hib : (i : Int) ≤ 1048576 := by omega
 have hb7 : (i : Int) ≤ (n : Int) := by omega
 clear h1s h1x hsrc hroomj hdl hh hcs ht h3 h4 h5 hv hv1 hnn hR hW1 hvb hlo hnc hcm hn hi
 go_enter Try.func82, Try.ntmps82
 go_wp2_with (simp only [hov])
 go_region_law (refine copy_step (by rfl) (.tmp 73) (.tmp 76) 31 31 rfl (.slice (some ⟨g, (i + 1) * 2, none⟩) (n + 1 - (i + 1)) (c - (i + 1))) (.slice (some ⟨g, i * 2, none⟩) (n + 1 - i) (c - i)) (by simp [Act.eval, Act.put]) (by simp [Act.eval, Act.put]) (hcp1 _ _ _) ?_)
 go_wp2_with (at_builtin; refine copy_list rfl _ _ 31 31 rfl _ _ rfl rfl (hcp2 _ rfl rfl _ _) ?_)
 go_ret
 first | exact ⟨rfl, rfl⟩ | exact ⟨rfl, by rw [HW1.out]⟩
theorem shift_R (w : World) (lo g c i : Nat) (xs : List Pv) (x : Pv) (hR : RR w lo (.slice (some ⟨g, 0, none⟩) xs.length c) xs) (h1s : ∀ p ∈ xs, One p) (h1x : One x) (hi : i ≤ xs.length) (hroom : xs.length + 1 ≤ c) (hlw : lo ≤ w.heap.size) :
  RR ((w.drew.setCells g ((i + 1) * 2) (cels (xs.drop i))).setCells g (i * 2) (cel x)) lo (.slice (some ⟨g, 0, none⟩) (xs.length + 1) c) (xs.take i ++ x :: xs.drop i) ∧ Below lo w ((w.drew.setCells g ((i + 1) * 2) (cels (xs.drop i))).setCells g (i * 2) (cel x)) ∧ w.grownBy ((w.drew.setCells g ((i + 1) * 2) (cels (xs.drop i))).setCells g (i * 2) (cel x)) (some g) := by
 obtain ⟨_, hlo, hnc, hcm, cur, hh, hcs, ht⟩ := R_view hR
 have hdl : (cels (xs.drop i)).length = (xs.length - i) * 2 := by rw [cels_len, List.length_drop]
 have h2 : (cel x).length = 2 := rfl
 obtain ⟨cur1, h3, h4, h5⟩ := setCells_row (cels (xs.drop i)) ((i + 1) * 2) w.drew cur hh (by omega)
 obtain ⟨cur2, h6, h7, h8⟩ := setCells_row (cel x) (i * 2) _ cur1 h3 (by omega)
 have hlen : (xs.take i ++ x :: xs.drop i).length = xs.length + 1 := by rw [List.length_append, List.length_take, List.length_cons, List.length_drop]; omega
 refine ⟨?_, ?_, ?_⟩
 ·have hm := R_made (lo := lo) (g := g) (c := c) (xs := xs.take i ++ x :: xs.drop i) (ones h1s h1x i) hlo (by rw [hlen]; exact hroom) hcm cur2 h6 (by omega) (by
   rw [hlen, h8, h5]
   have e := lists cur.toList (cels xs) (cel x) i xs.length hi rfl (cels_len xs) ht (by have e := Array.length_toList (xs := cur); omega)
   rw [cels_drop, cels_take] at e
   rw [cels_app, cels_cons, ← List.append_assoc]
   exact e)
  rw [hlen] at hm
  exact hm
 ·obtain ⟨s1, s2, s3, s4⟩ := setCells_same g (cels (xs.drop i)) ((i + 1) * 2) w.drew
  obtain ⟨t1, t2, t3, t4⟩ := setCells_same g (cel x) (i * 2) (w.drew.setCells g ((i + 1) * 2) (cels (xs.drop i)))
  exact ⟨t1.trans s1, t2.trans s2, t3.trans s3, by rw [t4, s4]; exact Nat.le_refl _, fun b hb => (setCells_far _ _ b (by omega)).trans (setCells_far _ _ b (by omega))⟩
 ·obtain ⟨s1, s2, s3, s4⟩ := setCells_same g (cels (xs.drop i)) ((i + 1) * 2) w.drew
  obtain ⟨t1, t2, t3, t4⟩ := setCells_same g (cel x) (i * 2) (w.drew.setCells g ((i + 1) * 2) (cels (xs.drop i)))
  exact ⟨t1.trans s1, t2.trans s2, t3.trans s3, by rw [t4, s4]; exact Nat.le_refl _, fun b _ hb => (setCells_far _ _ b (fun e => hb (by rw [e]))).trans (setCells_far _ _ b (fun e => hb (by rw [e])))⟩
theorem grow_R (w : World) (lo i G : Nat) (xs : List Pv) (x : Pv) (ROW : Array Value) (h1s : ∀ p ∈ xs, One p) (h1x : One x) (hi : i ≤ xs.length) (hrs : ROW.size = G * 2) (hG : xs.length + 1 ≤ G) (hGm : G ≤ maxLen) (ht : ROW.toList.take (i * 2) = cels (xs.take i)) (hlw : lo ≤ w.heap.size) :
  RR ((((w.alloc (.cells ROW 102)).drew.setCells w.heap.size (i * 2) (cel x)).drew).setCells w.heap.size ((i + 1) * 2) (cels (xs.drop i))) lo (.slice (some ⟨w.heap.size, 0, none⟩) (xs.length + 1) G) (xs.take i ++ x :: xs.drop i) ∧ Below lo w ((((w.alloc (.cells ROW 102)).drew.setCells w.heap.size (i * 2) (cel x)).drew).setCells w.heap.size ((i + 1) * 2) (cels (xs.drop i))) ∧ Below w.heap.size w ((((w.alloc (.cells ROW 102)).drew.setCells w.heap.size (i * 2) (cel x)).drew).setCells w.heap.size ((i + 1) * 2) (cels (xs.drop i))) := by
 have hdl : (cels (xs.drop i)).length = (xs.length - i) * 2 := by rw [cels_len, List.length_drop]
 have h2 : (cel x).length = 2 := rfl
 have hh : (w.alloc (.cells ROW 102)).drew.heap[w.heap.size]? = some (.cells ROW 102 (0, 0)) := at_new w _
 obtain ⟨cur1, h3, h4, h5⟩ := setCells_row (cel x) (i * 2) _ ROW hh (by omega)
 obtain ⟨cur2, h6, h7, h8⟩ := setCells_row (cels (xs.drop i)) ((i + 1) * 2) _ cur1 (show (((w.alloc (.cells ROW 102)).drew.setCells w.heap.size (i * 2) (cel x)).drew).heap[w.heap.size]? = _ from h3) (by omega)
 have hlen : (xs.take i ++ x :: xs.drop i).length = xs.length + 1 := by rw [List.length_append, List.length_take, List.length_cons, List.length_drop]; omega
 refine ⟨?_, ?_, ?_⟩
 ·have hm := R_made (lo := lo) (g := w.heap.size) (c := G) (xs := xs.take i ++ x :: xs.drop i) (ones h1s h1x i) hlw (by rw [hlen]; exact hG) hGm cur2 h6 (by omega) (by
   rw [hlen, h8, h5]
   have e := lists2 ROW.toList (cels xs) (cel x) i xs.length hi rfl (cels_len xs) (by rw [ht, cels_take]) (by have e := Array.length_toList (xs := ROW); omega)
   rw [cels_drop, cels_take] at e
   rw [cels_app, cels_cons, ← List.append_assoc]
   exact e)
  rw [hlen] at hm
  exact hm
 ·obtain ⟨s1, s2, s3, s4⟩ := setCells_same w.heap.size (cel x) (i * 2) (w.alloc (.cells ROW 102)).drew
  obtain ⟨t1, t2, t3, t4⟩ := setCells_same w.heap.size (cels (xs.drop i)) ((i + 1) * 2) (((w.alloc (.cells ROW 102)).drew.setCells w.heap.size (i * 2) (cel x)).drew)
  have hb : Below w.heap.size w (w.alloc (.cells ROW 102)) := below_alloc (Below.refl _ _) _
  exact ⟨t1.trans (s1.trans hb.os), t2.trans (s2.trans hb.tape), t3.trans (s3.trans hb.output), by rw [t4]; show w.heap.size ≤ ((w.alloc (.cells ROW 102)).drew.setCells w.heap.size (i * 2) (cel x)).heap.size; rw [s4]; exact hb.size, fun b hbl => (setCells_far _ _ b (by omega)).trans ((setCells_far _ _ b (by omega)).trans (hb.block b (by omega)))⟩
 ·obtain ⟨s1, s2, s3, s4⟩ := setCells_same w.heap.size (cel x) (i * 2) (w.alloc (.cells ROW 102)).drew
  obtain ⟨t1, t2, t3, t4⟩ := setCells_same w.heap.size (cels (xs.drop i)) ((i + 1) * 2) (((w.alloc (.cells ROW 102)).drew.setCells w.heap.size (i * 2) (cel x)).drew)
  have hb : Below w.heap.size w (w.alloc (.cells ROW 102)) := below_alloc (Below.refl _ _) _
  exact ⟨t1.trans (s1.trans hb.os), t2.trans (s2.trans hb.tape), t3.trans (s3.trans hb.output), by rw [t4]; show w.heap.size ≤ ((w.alloc (.cells ROW 102)).drew.setCells w.heap.size (i * 2) (cel x)).heap.size; rw [s4]; exact hb.size, fun b hbl => (setCells_far _ _ b (by omega)).trans ((setCells_far _ _ b (by omega)).trans (hb.block b (by omega)))⟩
set_option maxHeartbeats 2000000 in
set_option maxRecDepth 100000 in
theorem ins_grow (lo g c i vb : Nat) (xs : List Pv) (x : Pv) (w : World) (hR : RR w lo (.slice (some ⟨g, 0, none⟩) xs.length c) xs) (h1s : ∀ p ∈ xs, One p) (h1x : One x) (hi : i < xs.length) (hroom : c < xs.length + 1) (hv : w.heap[vb]? = some (.cells #[x.1, x.2] 102 (0, 0))) (hn : xs.length ≤ 1048576) (hlw : lo ≤ w.heap.size) :
  Calls Try.prog 82 #[.slice (some ⟨g, 0, none⟩) xs.length c, .int .i64 (i : Int), .slice (some ⟨vb, 0, none⟩) 1 1] w fun e w' => ∃ G : Nat, e = .returned (.slice (some ⟨w.heap.size, 0, none⟩) (xs.length + 1) G) ∧ RR w' lo (.slice (some ⟨w.heap.size, 0, none⟩) (xs.length + 1) G) (xs.take i ++ x :: xs.drop i) ∧ Below lo w w' ∧ Below w.heap.size w w' := by
 obtain ⟨_, hlo, hnc, hcm, cur, hh, hcs, ht⟩ := R_view hR
 obtain ⟨i0, hi0, hz0, hzs, hzb⟩ := info_parts info102
 obtain ⟨n, hnn⟩ : ∃ n, n = xs.length := ⟨_, rfl⟩
 have hgw : g < w.heap.size := blk_lt hh
 have hvw : vb < w.heap.size := blk_lt hv
 rw [← hnn] at hi hroom hn hnc ht
 have hkk : (n : Int) + 1 - (i : Int) = ((n + 1 - i : Nat) : Int) := by omega
 have hik : i + (n + 1 - i) = n + 1 := by omega
 have hold : (Builtin.firstCells i0.size i (.slice (some ⟨g, 0, none⟩) i c)).run Try.prog w.drew = .ok (cels (xs.take i)).toArray w.drew := by
  rw [hzs]
  exact run_firstCells_some (w := w.drew) 2 i ⟨g, 0, none⟩ i c (cels (xs.take i)) (by rw [cels_len, List.length_take]; omega) (fun j v hj => by
   rw [add_plain]
   show w.cell? _ = _
   rw [blk_cell hh, ← Array.getElem?_toList]
   rw [← cels_take, List.getElem?_take] at hj
   split at hj
   ·rw [← ht, List.getElem?_take] at hj
    split at hj
    ·exact hj
    ·cases hj
   ·cases hj)
 have hrz : ∀ ty, (Builtin.append_ #[31, 3] ty #[.slice (some ⟨g, 0, none⟩) i c, .int .i64 ((n : Int) + 1 - (i : Int))]).run Try.prog w = .ok (.slice (some ⟨w.heap.size, 0, none⟩) (n + 1) (grownCap w (n + 1) c 102)) (w.drew.alloc (.cells ((cels (xs.take i)).toArray ++ Builtin.zeroCells (Value.cells (.agg #[(.string ⟨#[]⟩), (.slice none 0 0)])) (n + 1 - i) ++ Builtin.zeroCells (Value.cells (.agg #[(.string ⟨#[]⟩), (.slice none 0 0)])) (grownCap w (n + 1) c 102 - (n + 1))) 102)) := fun ty => by
  have h := Lib.run_append_grow_zeros w 31 3 ty 102 i0 _ .i64 .i64 Try.underlying31 Try.underlying3 hi0 hz0 (some ⟨g, 0, none⟩) i c (cels (xs.take i)) hold (n + 1 - i) (by omega) (by omega) (by omega) (by omega) (by rw [hzb]; omega) (by rw [hzb, hik]; exact growslice_fits hroom (by omega))
  rw [hik] at h
  rw [hkk]
  exact h
 obtain ⟨G, hG⟩ : ∃ G, G = grownCap w (n + 1) c 102 := ⟨_, rfl⟩
 have hGn : n + 1 ≤ G := by rw [hG]; exact grownCap_ge w _ _ _
 have hGm : G ≤ maxLen := by rw [hG]; exact grownCap_le_maxLen w (n + 1) c 102 (by unfold maxLen; omega)
 obtain ⟨ROW, hROW⟩ : ∃ ROW : Array Value, ROW = (cels (xs.take i)).toArray ++ Builtin.zeroCells (Value.cells (.agg #[(.string ⟨#[]⟩), (.slice none 0 0)])) (n + 1 - i) ++ Builtin.zeroCells (Value.cells (.agg #[(.string ⟨#[]⟩), (.slice none 0 0)])) (G - (n + 1)) := ⟨_, rfl⟩
 have htl : (cels (xs.take i)).length = i * 2 := by rw [cels_len, List.length_take]; omega
 have hrs : ROW.size = G * 2 := by
  rw [hROW]
  simp [Builtin.zeroCells, Value.cells, htl]
  omega
 have hrt : ROW.toList.take (i * 2) = cels (xs.take i) := by
  rw [hROW, Array.toList_append, Array.toList_append, List.append_assoc]
  exact List.take_left' htl
 rw [← hG] at hrz
 rw [← hROW] at hrz
 obtain ⟨W1, hW1⟩ : ∃ W1, W1 = w.drew.alloc (.cells ROW 102) := ⟨_, rfl⟩
 rw [← hW1] at hrz
 have hN1 : W1.heap[w.heap.size]? = some (.cells ROW 102 (0, 0)) := by rw [hW1]; exact at_new w.drew _
 have hV1 : W1.heap[vb]? = some (.cells #[x.1, x.2] 102 (0, 0)) := by rw [hW1]; exact xblk_alloc (xblk_drew hv) _
 have hG1 : W1.heap[g]? = some (.cells cur 102 (0, 0)) := by rw [hW1]; exact xblk_alloc (xblk_drew hh) _
 have h2 : (cel x).length = 2 := rfl
 have hdl : (cels (xs.drop i)).length = (n - i) * 2 := by rw [cels_len, List.length_drop, hnn]
 have hcpA : ∀ (W : World), W.heap[w.heap.size]? = W1.heap[w.heap.size]? → W.heap[vb]? = W1.heap[vb]? → ∀ ty dc, (Builtin.copy_ #[31, 31] ty #[.slice (some ⟨w.heap.size, i * 2, none⟩) (n + 1 - i) dc, .slice (some ⟨vb, 0, none⟩) 1 1]).run Try.prog W = .ok (goInt (Nat.min 1 (n + 1 - i))) (W.setCells w.heap.size (i * 2) (cel x)) := fun W hWg hWv ty dc =>
  copy_run W ty w.heap.size (i * 2) (n + 1 - i) dc ⟨vb, 0, none⟩ 1 1 (cel x) (by rw [show Nat.min 1 (n + 1 - i) = 1 by simp only [Nat.min_def]; split <;> omega]; rfl)
   (fun j v hj => by rw [add_plain, blk_cell (hWv.trans hV1)]; simpa [cel] using hj) (fun j hj => by rw [blk_cell (hWg.trans hN1), Array.getElem?_eq_getElem (by omega)]; rfl) (fun j hj => blk_frozen (hWg.trans hN1) _)
   (fun v hv => cels_one [x] (fun p hp => by rw [List.mem_singleton.1 hp]; exact h1x) v (by rw [cels_cons]; exact List.mem_append_left _ hv))
 obtain ⟨cur1, h3, h4, h5⟩ := setCells_row (cel x) (i * 2) W1 ROW hN1 (by omega)
 have hG2 : (W1.setCells w.heap.size (i * 2) (cel x)).heap[g]? = some (.cells cur 102 (0, 0)) := (setCells_far _ _ g (by omega)).trans hG1
 have hcpB : ∀ (W : World), W.heap[w.heap.size]? = (W1.setCells w.heap.size (i * 2) (cel x)).heap[w.heap.size]? → W.heap[g]? = (W1.setCells w.heap.size (i * 2) (cel x)).heap[g]? → ∀ ty dc sc, (Builtin.copy_ #[31, 31] ty #[.slice (some ⟨w.heap.size, (i + 1) * 2, none⟩) (n + 1 - (i + 1)) dc, .slice (some ⟨g, i * 2, none⟩) (n - i) sc]).run Try.prog W = .ok (goInt (Nat.min (n - i) (n + 1 - (i + 1)))) (W.setCells w.heap.size ((i + 1) * 2) (cels (xs.drop i))) := fun W hWn hWg ty dc sc =>
  copy_run W ty w.heap.size ((i + 1) * 2) (n + 1 - (i + 1)) dc ⟨g, i * 2, none⟩ (n - i) sc (cels (xs.drop i)) (by rw [hdl, show Nat.min (n - i) (n + 1 - (i + 1)) = n - i by simp only [Nat.min_def]; split <;> omega])
   (fun j v hj => by
    have hjl : j < (n - i) * 2 := by have := (List.getElem?_eq_some_iff.1 hj).1; omega
    rw [← cels_drop, ← ht, List.drop_take, List.getElem?_take, if_pos (by omega), List.getElem?_drop] at hj
    rw [add_at, blk_cell (hWg.trans hG2), ← Array.getElem?_toList]
    exact hj)
   (fun j hj => by rw [blk_cell (hWn.trans h3), Array.getElem?_eq_getElem (by omega)]; rfl) (fun j hj => blk_frozen (hWn.trans h3) _) (cels_one _ (fun p hp => h1s p (List.mem_of_mem_drop hp)))
 subst hW1
 have HE1 := aM (show ((w.alloc (.cells ROW 102)).drew).heap[w.heap.size]? = (w.drew.alloc (.cells ROW 102)).heap[w.heap.size]? from rfl)
 have HE2 := aM (show ((w.alloc (.cells ROW 102)).drew).heap[vb]? = (w.drew.alloc (.cells ROW 102)).heap[vb]? from rfl)
 have HE3 := aM (show (((w.alloc (.cells ROW 102)).drew.setCells w.heap.size (i * 2) (cel x)).drew).heap[w.heap.size]? = ((w.drew.alloc (.cells ROW 102)).setCells w.heap.size (i * 2) (cel x)).heap[w.heap.size]? from rfl)
 have HE4 := aM (show (((w.alloc (.cells ROW 102)).drew.setCells w.heap.size (i * 2) (cel x)).drew).heap[g]? = ((w.drew.alloc (.cells ROW 102)).setCells w.heap.size (i * 2) (cel x)).heap[g]? from rfl)
 have hz2 : ¬ ((i : Int) = (n : Int)) := by omega
 have hz3 : (c : Int) < (n : Int) + 1 := by omega
 have hb1 : (0 : Int) ≤ (i : Int) + 1 := by omega
 have hin : i ≤ n := by omega
 have htn : ((i : Int) + 1).toNat = i + 1 := by omega
 have hGi : ¬ (G = i) := by omega
 have hGim : ¬ (G = i + 1) := by omega
 have hci : ¬ (c = i) := by omega
 have hb3 : (i : Int) ≤ (n : Int) := by omega
 have hb5 : (i : Int) + 1 ≤ (n : Int) + 1 := by omega
 have hb8 : (i : Int) ≤ (n : Int) + 1 := by omega
 have hw1 : IntKind.i64.wrap ((i : Int) + 1) = (i : Int) + 1 := by rw [IntKind.wrap_i64]; omega
 have hnb : (n : Int) ≤ 1048576 := by omega
 have hib : (i : Int) ≤ 1048576 := by omega
 have hic : (i : Int) ≤ (c : Int) := by omega
 have HF := aM (grow_R w lo i G xs x ROW h1s h1x (by omega) hrs (by omega) hGm hrt hlw)
 rw [← hnn] at HF ⊢
 have hA1 := fun ty dc => hcpA (w.alloc (.cells ROW 102)).drew HE1.out HE2.out ty dc
 have HBB := aM (fun ty dc sc => hcpB (((w.alloc (.cells ROW 102)).drew.setCells w.heap.size (i * 2) (cel x)).drew) HE3.out HE4.out ty dc sc)
 clear hcpA hcpB
 clear h1s h1x hkk hik hold hROW hG hrs hrt hdl htl h2 h3 h4 h5 hG1 hG2 hN1 hV1 hGm hh hcs ht hv hR hnn hlo hcm hi0 hz0 hzs hzb hgw hvw hn hroom hi hlw
 go_enter Try.func82, Try.ntmps82
 go_wp2_with (at_builtin; refine Lib.wpList_append_run _ rfl _ _ _ _ rfl _ _ rfl rfl _ _ (hrz _) ?_)
 go_region_law (refine copy_step (by rfl) (.tmp 50) (.tmp 53) 31 31 rfl (.slice (some ⟨w.heap.size, (i + 1) * 2, none⟩) (n + 1 - (i + 1)) (G - (i + 1))) (.slice (some ⟨g, i * 2, none⟩) (n - i) (c - i)) (by simp [Act.eval, Act.put]) (by simp [Act.eval, Act.put]) (HBB.out _ _ _) ?_)
 go_wp2
 go_ret
 exact ⟨G, rfl, HF.out⟩
theorem own_eq (A : Option Addr) (n c c' : Nat) : (Value.slice A n c).ownBlock = (Value.slice A n c').ownBlock := by cases A <;> rfl
theorem own_cap {w w1 : World} {A : Option Addr} {n c c' : Nat} (h : w.grownBy w1 (Value.slice A n c).ownBlock) : w.grownBy w1 (Value.slice A n c').ownBlock := own_eq A n c c' ▸ h
set_option maxHeartbeats 2000000 in
set_option maxRecDepth 100000 in
theorem ins_end (lo vb : Nat) (A : Option Addr) (c : Nat) (xs : List Pv) (x : Pv) (w : World) (hR : RR w lo (.slice A xs.length c) xs) (h1s : ∀ p ∈ xs, One p) (h1x : One x) (hv : w.heap[vb]? = some (.cells #[x.1, x.2] 102 (0, 0))) (hn : xs.length ≤ 1048576) (hlw : lo ≤ w.heap.size) :
  Calls Try.prog 82 #[.slice A xs.length c, .int .i64 (xs.length : Int), .slice (some ⟨vb, 0, none⟩) 1 1] w fun e w' => ∃ v', e = .returned v' ∧ RR w' lo v' (xs ++ [x]) ∧ Below lo w w' ∧ w.grownBy w' (Value.slice A xs.length c).ownBlock ∧ (v'.ownBlock = (Value.slice A xs.length c).ownBlock ∨ ∃ b, v'.ownBlock = some b ∧ w.heap.size ≤ b) := by
 obtain ⟨hxx, hnc, hyy⟩ := Kd.R_reads' hR
 clear hxx hyy
 have HR : Aside0 ((Kd.raw 2).R 102 w lo (fun _ => True) (.slice A xs.length c) (xs.map cel)) := ⟨hR⟩
 have HLW := aM hlw
 have HRR := aM (show ReadsRow (fun (p : List Value) cs => cs = p ∧ cs.length = 2 ∧ ∀ u ∈ cs, u.oneCell' = true) (Kd.raw 2).sz w (some ⟨vb, 0, none⟩) 1 [cel x] from ⟨rfl, by decide, fun _ => ⟨_, rfl, fun j p hj => by
  cases j with
  | zero =>
   obtain rfl := Option.some.inj hj
   refine ⟨cel x, rfl, ⟨rfl, rfl, cels_one [x] (fun p hp => by rw [List.mem_singleton.1 hp]; exact h1x)⟩, fun i u hu => ?_⟩
   rw [add_plain, Nat.zero_mul, Nat.zero_add, blk_cell hv]
   simpa [cel] using hu
  | succ j => cases hj⟩⟩)
 have hnb : (xs.length : Int) ≤ 1048576 := by omega
 have HNB := aM hn
 have hnc2 : (xs.length : Int) ≤ (c : Int) := by omega
 clear hR hlw hv hnc hn h1s h1x
 go_enter Try.func82, Try.ntmps82
 go_wp2_with (at_builtin; go_loud (refine Kd.R_append_rows (Kd.raw 2) (Rr := fun p cs => cs = p ∧ cs.length = 2 ∧ ∀ u ∈ cs, u.oneCell' = true) (w0 := w) lo rfl (.tmp 23) (.tmp 24) 31 102 (.agg #[(.string ⟨#[]⟩), (.slice none 0 0)]) 40 rfl Try.underlying31 info102 rfl (by decide) (by decide) (.slice A xs.length c) (xs.map cel) [cel x] (some ⟨vb, 0, none⟩) 1 1 (fun _ => True) (fun _ => False) rfl rfl HR.out HRR.out (fun p cs h => h) (fun _ h => h.elim) (fun _ _ => trivial) (Below.refl lo w) HLW.out (by have := HNB.out; simp only [List.length_map, List.length_cons, List.length_nil]; omega) ?_; intro v1 w1 ho1 hb1 hg1 hat1; have HO1 := aM ho1; have HB1 := aM hb1; have HG1 := aM hg1; have HAT1 := aM hat1; clear ho1 hb1 hg1 hat1))
 all_goals
  go_ret
  exact ⟨_, rfl, by have := HO1.out; unfold RR; rw [List.map_append]; exact this, HB1.out, by first | exact HG1.out | exact own_cap HG1.out, by first | exact HAT1.out | (rw [own_eq A xs.length _ c]; exact HAT1.out)⟩
theorem insert (lo i vb : Nat) (A : Option Addr) (c : Nat) (xs : List Pv) (x : Pv) (w : World) (hR : RR w lo (.slice A xs.length c) xs) (hi : i ≤ xs.length) (h1s : ∀ p ∈ xs, One p) (h1x : One x) (hv : w.heap[vb]? = some (.cells #[x.1, x.2] 102 (0, 0))) (hne : some vb ≠ (Value.slice A xs.length c).ownBlock) (hn : xs.length ≤ 1048576) (hlw : lo ≤ w.heap.size) :
  Calls Try.prog 82 #[.slice A xs.length c, .int .i64 (i : Int), .slice (some ⟨vb, 0, none⟩) 1 1] w fun e w' => ∃ v', e = .returned v' ∧ RR w' lo v' (xs.take i ++ x :: xs.drop i) ∧ Below lo w w' ∧ w.grownBy w' (Value.slice A xs.length c).ownBlock ∧ (v'.ownBlock = (Value.slice A xs.length c).ownBlock ∨ ∃ b, v'.ownBlock = some b ∧ w.heap.size ≤ b) := by
 by_cases hil : i < xs.length
 ·obtain ⟨inner, hin⟩ := Kd.R_own hR
  obtain ⟨g, c2, e2, hgb, hgl⟩ := hin.form (by rw [List.length_map]; omega)
  injection e2 with e3 _ e4
  subst e3 e4
  have hvg : vb ≠ g := fun h => hne (by simp [Value.ownBlock, h])
  by_cases hroom : xs.length + 1 ≤ c
  ·refine (ins_shift lo g c i vb xs x w hR h1s h1x hil hroom hv hvg hn).mono ?_
   rintro e w' ⟨rfl, rfl⟩
   obtain ⟨q1, q2, q3⟩ := shift_R w lo g c i xs x hR h1s h1x hi hroom hlw
   exact ⟨_, rfl, q1, q2, q3, .inl rfl⟩
  ·refine (ins_grow lo g c i vb xs x w hR h1s h1x hil (by omega) hv hn hlw).mono ?_
   rintro e w' ⟨G, rfl, h1, h2, h3⟩
   exact ⟨_, rfl, h1, h2, ⟨h3.os, h3.tape, h3.output, h3.size, fun k hk _ => h3.block k hk⟩, .inr ⟨_, rfl, Nat.le_refl _⟩⟩
 ·obtain rfl : i = xs.length := by omega
  rw [List.take_length, List.drop_length]
  exact ins_end lo vb A c xs x w hR h1s h1x hv hn hlw
end Go.Proofs.Ytaomjndfjmfelaa.EnI
end

section
namespace Go.Proofs.Ytaomjndfjmfelaa.IdR
set_option linter.unusedVariables false
set_option linter.unusedSimpArgs false
open Go.RowKit Go.Proofs.Ytaomjndfjmfelaa.PQ Go.Proofs.YtaomjndfjmfelaaW.PrintWords Go.Proofs.YtaomjndfjmfelaaW.PrintLast Go.Proofs.YtaomjndfjmfelaaW.PrintMore Go.Proofs.Ytaomjndfjmfelaa.Pre Go.Proofs.Ytaomjndfjmfelaa.EntW Go.Proofs.Ytaomjndfjmfelaa.Posts Go.Proofs.Ytaomjndfjmfelaa.GoodW Go.Proofs.Ytaomjndfjmfelaa.PostW Go.Proofs.Ytaomjndfjmfelaa.Raw Go.Proofs.Ytaomjndfjmfelaa.CmpL Go.Proofs.Ytaomjndfjmfelaa.Cou Go.Proofs.Ytaomjndfjmfelaa.EnI
theorem rows_two {w : World} {base : Nat} {ok : Nat → Prop} {v : Value} {rows : List (List Value)} (h : (Kd.raw 2).R 102 w base ok v rows) : ∀ r ∈ rows, ∃ a b, r = [a, b] ∧ a.oneCell' = true ∧ b.oneCell' = true := by
 intro r hr
 obtain ⟨j, hj, rfl⟩ := List.getElem_of_mem hr
 obtain ⟨_, inner, ho, hrr⟩ := h
 obtain ⟨h1, h2, h3⟩ := hrr.2 j _ (List.getElem?_eq_getElem hj)
 have e1 : (inner.drop (j * 2)).take 2 = rows[j] := h1
 have e2 : rows[j].length = 2 := by rw [← e1]; exact h2
 have e3 : ∀ u ∈ rows[j], u.oneCell' = true := fun u hu => h3 u (by rw [← e1] at hu; exact hu)
 generalize rows[j] = x at e2 e3
 match x, e2, e3 with
 | [a, b], _, e3 => exact ⟨a, b, rfl, e3 a (by simp), e3 b (by simp)⟩
def pv (r : List Value) : Pv := (r.getD 0 nilV, r.getD 1 nilV)
theorem cel_pv {rows : List (List Value)} (h : ∀ r ∈ rows, ∃ a b, r = [a, b] ∧ a.oneCell' = true ∧ b.oneCell' = true) : (rows.map pv).map cel = rows ∧ ∀ p ∈ rows.map pv, One p := by
 refine ⟨?_, fun p hp => ?_⟩
 ·rw [List.map_map]
  conv => rhs; rw [← List.map_id rows]
  refine List.map_congr_left (fun r hr => ?_)
  obtain ⟨a, b, rfl, _, _⟩ := h r hr
  rfl
 ·obtain ⟨r, hr, rfl⟩ := List.mem_map.1 hp
  obtain ⟨a, b, rfl, h1, h2⟩ := h r hr
  exact ⟨h1, h2⟩
theorem ins_S (P0 : Nat → Prop) (lo k vb : Nat) (A : Option Addr) (c : Nat) (l : List En) (t : ByteArray) (W : World) (hS : Kd.S k102 102 W lo P0 (.slice A l.length c) l) (hk : k ≤ l.length) (hl : l.length ≤ 1048575) (hlw : lo ≤ W.heap.size)
  (hv : W.heap[vb]? = some (.cells #[.string t, .slice none 0 0] 102 (0, 0))) (hne : ¬ P0 vb) (hP : ∀ q, P0 q → q < W.heap.size) :
  Calls Try.prog 82 #[.slice A l.length c, .int .i64 (k : Int), .slice (some ⟨vb, 0, none⟩) 1 1] W fun e w' => ∃ v', e = .returned v' ∧ Kd.S k102 102 w' lo (fun q => P0 q ∨ W.heap.size ≤ q) v' (l.take k ++ ⟨t, []⟩ :: l.drop k) ∧ Below lo W w' ∧ Kept W w' P0 := by
 obtain ⟨rows, okj, hraw, hown, hok, hov⟩ := S_open hS
 have hraw : (Kd.raw 2).R 102 W lo (fun k => some k = (Value.slice A l.length c).ownBlock) (.slice A l.length c) rows := hraw
 have h2 := rows_two hraw
 obtain ⟨hcel, hones⟩ := cel_pv h2
 have hlen : (rows.map pv).length = l.length := by rw [List.length_map, hown.len]
 have hRR : RR W lo (.slice A (rows.map pv).length c) (rows.map pv) := by
  rw [hlen]
  unfold RR
  rw [hcel]
  exact Kd.R_mono hraw (fun _ _ => trivial)
 have hone : One ((.string t, nilV) : Pv) := ⟨by simp [Value.oneCell'], by simp [Value.oneCell']⟩
 have hC := EnI.insert lo k vb A c (rows.map pv) (.string t, nilV) W hRR (by omega) hones hone hv (fun e => hne (hov vb (by rw [hlen] at e; exact e.symm))) (by omega) hlw
 rw [hlen] at hC
 refine hC.mono ?_
 rintro e w' ⟨v', rfl, hR', hB', hG', hat⟩
 have hR2 : (Kd.raw 2).R 102 w' lo (fun _ => True) v' (rows.take k ++ [.string t, nilV] :: rows.drop k) := by
  unfold RR at hR'
  rw [List.map_append, List.map_cons, List.map_take, List.map_drop, hcel] at hR'
  exact hR'
 have hx : Kd.M k102 w' lo (fun _ => False) (⟨t, []⟩ : En) [.string t, nilV] := k102_mkM _ _ _ (⟨t, []⟩ : En) (Kd.R_nil _ _ _ _ _)
 have hO := (hown.move (w1 := w') (fun j q hq hlt => hG'.block q hlt (fun e => (hok j q hq).2 e))).insert k hk hx (fun _ _ _ h => h)
 refine ⟨v', rfl, S_close (okv := fun _ => True) hR2 hO (fun j q hq => ?_) (fun q hq => ?_), hB', hG'.size, fun q hq hn => hG'.block q hq (fun e => hn (hov q e.symm))⟩
 ·have key : ∀ j, okj j q → (P0 q ∨ W.heap.size ≤ q) ∧ some q ≠ v'.ownBlock := fun j hj => by
   have h1 := hok j q hj
   refine ⟨.inl h1.1, fun e => ?_⟩
   rcases hat with h | ⟨b, hb, hn⟩
   ·exact h1.2 (e.trans h)
   ·rw [hb] at e
    injection e with e
    have := hP q h1.1
    omega
  by_cases h1 : j < k
  ·simp only [if_pos h1] at hq
   exact key _ hq
  ·simp only [if_neg h1] at hq
   by_cases h3 : j = k
   ·simp only [if_pos h3] at hq
   ·simp only [if_neg h3] at hq
    exact key _ hq
 ·rcases hat with h | ⟨b, hb, hn⟩
  ·exact .inl (hov q (h ▸ hq))
  ·rw [hb] at hq
   injection hq with hq
   exact .inr (by omega)
/-- An entry that is open: the row about it, and its postings' row. -/
structure Opn (W : World) (lo W0 : Nat) (P0 OKI : Nat → Prop) (g c k : Nat) (l : List En) (x : ByteArray) (pv : Value) (ps : List Po) : Prop where
 H : Kd.H k102 102 W lo (fun q => P0 q ∨ W0 ≤ q) (.slice (some ⟨g, 0, none⟩) l.length c) l (k : Int) OKI [.string x, pv]
 R : Kd.R k56 56 W lo OKI pv ps
 new : ∀ q, W0 ≤ q → OKI q
 own : ∀ q, pv.ownBlock = some q → P0 q ∨ W0 ≤ q
 hg : P0 g ∧ g < W0 ∧ lo ≤ g
 lt : k < l.length
theorem open_at {P0 : Nat → Prop} {lo c : Nat} {A : Option Addr} {l : List En} {W : World} (hS : Kd.S k102 102 W lo P0 (.slice A l.length c) l) (k : Nat) (hk : k < l.length) :
  ∃ g OKI pv, A = some ⟨g, 0, none⟩ ∧ Opn W lo W.heap.size P0 OKI g c k l l[k].f0 pv l[k].f1 := by
 obtain ⟨g, cap, hu, hgb, hgl, _⟩ := Kd.S_form hS (by omega)
 injection hu with hA _ hcap
 subst hA
 subst hcap
 obtain ⟨oki, ce, hcl, hM, hcc, hok2, hH⟩ := Kd.S_lend hS z102 (k : Int) (by omega) (by omega)
 rw [Int.toNat_natCast, show l.getD k z102 = l[k] by rw [List.getD_eq_getElem?_getD, List.getElem?_eq_getElem hk]; rfl] at hM
 obtain ⟨v1, hv1, hV1⟩ := k102_openM hM
 subst hv1
 obtain ⟨OKI, hOKI⟩ : ∃ OKI : Nat → Prop, OKI = (fun q => oki q ∨ (P0 q ∨ W.heap.size ≤ q) ∧ W.heap.size ≤ q) := ⟨_, rfl⟩
 refine ⟨g, OKI, v1, rfl, by rw [hOKI]; exact Kd.H_widen (Kd.H_mono hH (fun q hq => .inl hq)), Kd.R_mono hV1 (fun q hq => by rw [hOKI]; exact .inl hq), fun q hq => by rw [hOKI]; exact .inr ⟨.inr hq, hq⟩, fun q hq => .inl (hok2 q (hV1.1 q hq)).1, ⟨(Kd.S_R hS).1 g (by simp [Value.ownBlock]), hgl, hgb⟩, hk⟩
/-- Shut again, with other postings. -/
theorem Opn.shut {W : World} {lo W0 : Nat} {P0 OKI : Nat → Prop} {g c k : Nat} {l : List En} {x : ByteArray} {pv : Value} {ps : List Po} (h : Opn W lo W0 P0 OKI g c k l x pv ps) :
  Kd.S k102 102 W lo (fun q => P0 q ∨ W0 ≤ q) (.slice (some ⟨g, 0, none⟩) l.length c) (l.set k ⟨x, ps⟩) := by
 have hS := Kd.H_back h.H (x' := (⟨x, ps⟩ : En)) (okp := OKI) (k102_mkM _ _ _ (⟨x, ps⟩ : En) h.R) (fun _ hq => hq)
 rw [Int.toNat_natCast] at hS
 exact hS
theorem Opn.cells {W : World} {lo W0 : Nat} {P0 OKI : Nat → Prop} {g c k : Nat} {l : List En} {x : ByteArray} {pv : Value} {ps : List Po} (h : Opn W lo W0 P0 OKI g c k l x pv ps) :
  W.cell? ⟨g, k * 2, none⟩ = some (.string x) ∧ W.cell? ⟨g, k * 2 + 1, none⟩ = some pv ∧ W.frozen? ⟨g, k * 2 + 1, none⟩ = false :=
 ⟨(H_cell2 h.H h.lt rfl 0 _ rfl).1, (H_cell2 h.H h.lt rfl 1 _ rfl).1, (H_cell2 h.H h.lt rfl 1 _ rfl).2⟩
/-- Its postings stand in a row that has grown elsewhere than about it. -/
theorem Opn.grown {W W2 : World} {lo W0 : Nat} {P0 OKI : Nat → Prop} {g c k : Nat} {l : List En} {x : ByteArray} {pv pv2 : Value} {ps ps2 : List Po} (h : Opn W lo W0 P0 OKI g c k l x pv ps) (hg : W.grownBy W2 pv.ownBlock) (hR : Kd.R k56 56 W2 lo OKI pv2 ps2)
  (hv : pv2.oneCell' = true) (hat : pv2.ownBlock = pv.ownBlock ∨ ∃ b, pv2.ownBlock = some b ∧ W.heap.size ≤ b) (hw : W0 ≤ W.heap.size) :
  Opn (W2.setCell ⟨g, k * 2 + 1, none⟩ pv2) lo W0 P0 OKI g c k l x pv2 ps2 ∧ W.heap.size ≤ (W2.setCell ⟨g, k * 2 + 1, none⟩ pv2).heap.size ∧ ∀ q, q < W.heap.size → ¬ (P0 q ∨ W0 ≤ q) → (W2.setCell ⟨g, k * 2 + 1, none⟩ pv2).heap[q]? = W.heap[q]? := by
 have h4 := Kd.H_grown h.H hg (fun q hq => h.R.1 q hq)
 obtain ⟨h5, hg5⟩ := H_put2 h4 h.lt rfl pv2 hv
 have h6 := Kd.R_far (p := ⟨g, k * 2 + 1, none⟩) hR (H_ne h4) pv2
 refine ⟨⟨h5, h6, h.new, fun q hq => ?_, h.hg, h.lt⟩, Nat.le_trans hg.size hg5.size, fun q hq hn => ?_⟩
 ·rcases hat with e | ⟨b, hb, hbs⟩
  ·exact h.own q (e ▸ hq)
  ·rw [hb] at hq
   injection hq with hq
   exact .inr (by omega)
 ·have e1 := hg.block q hq (fun e => hn (h.own q e.symm))
  have e2 := hg5.block q (Nat.lt_of_lt_of_le hq hg.size) (fun e => hn (by injection e with e; rw [e]; exact .inl h.hg.1))
  rw [e2, e1]
/-- One of its postings is put anew, in place. -/
theorem Opn.put {W : World} {lo W0 : Nat} {P0 OKI : Nat → Prop} {g c k g2 c2 m : Nat} {l : List En} {x : ByteArray} {ps : List Po} (h : Opn W lo W0 P0 OKI g c k l x (.slice (some ⟨g2, 0, none⟩) ps.length c2) ps) (hm : m < ps.length) (y : Int) :
  W.cell? ⟨g2, m * 2, none⟩ = some (.int .i64 ps[m].f0) ∧ W.cell? ⟨g2, m * 2 + 1, none⟩ = some (.int .i64 ps[m].f1) ∧ W.frozen? ⟨g2, m * 2 + 1, none⟩ = false ∧
  Opn (W.setCell ⟨g2, m * 2 + 1, none⟩ (.int .i64 y)) lo W0 P0 OKI g c k l x (.slice (some ⟨g2, 0, none⟩) ps.length c2) (ps.set m ⟨ps[m].f0, y⟩) ∧ W.grownBy (W.setCell ⟨g2, m * 2 + 1, none⟩ (.int .i64 y)) (some g2) ∧ (P0 g2 ∨ W0 ≤ g2) := by
 obtain ⟨ce2, hcl2, hM2, hcc2, hfr2⟩ := Kd.R_elem h.R z56 (m : Int) (by omega) (by omega)
 rw [Int.toNat_natCast, show ps.getD m z56 = ps[m] by rw [List.getD_eq_getElem?_getD, List.getElem?_eq_getElem hm]; rfl] at hM2
 have hce2 := k56_openM hM2
 subst hce2
 have hseg := Kd.R_seg (d := k56) (okp := fun _ => False) h.R (m : Int) (by omega) (by omega) (c := [.int .i64 ps[m].f0, .int .i64 ps[m].f1]) (seg := [.int .i64 y]) (j := 1) rfl (fun j u hu => by rw [Int.toNat_natCast] at hcc2 ⊢; exact hcc2 j u hu) (Nat.le_refl _) (x' := (⟨ps[m].f0, y⟩ : Po)) (k56_mkM _ _ _ _) (fun _ h => h.elim)
 rw [Int.toNat_natCast] at hcc2 hfr2 hseg
 have hR1 : Kd.R k56 56 (W.setCell ⟨g2, m * 2 + 1, none⟩ (.int .i64 y)) lo OKI (.slice (some ⟨g2, 0, none⟩) ps.length c2) (ps.set m ⟨ps[m].f0, y⟩) := hseg.1
 have hG1 : W.grownBy (W.setCell ⟨g2, m * 2 + 1, none⟩ (.int .i64 y)) (some g2) := hseg.2
 refine ⟨hcc2 0 _ rfl, hcc2 1 _ rfl, hfr2 1, ⟨Kd.H_grown h.H hG1 (fun q hq => h.R.1 q (by injection hq with hq; rw [← hq]; simp [Value.ownBlock])), hR1, h.new, h.own, h.hg, h.lt⟩, hG1, h.own g2 (by simp [Value.ownBlock])⟩
end Go.Proofs.Ytaomjndfjmfelaa.IdR
end

/- Several texts in one: what the claim's last text rests on. No conditions. -/
import Derived.Test.YtppmigiknidjhaaMDf13
import Derived.Test.YtppmigiknidjhaaMDf8
import Derived.Test.YtppmigiknidjhaaMDf12
import Derived.Test.YtppmigiknidjhaaMDf5
import Derived.Test.YtppmigiknidjhaaMDf9
import Derived.Test.YtppmigiknidjhaaMDf7
section
/- Ranks of the places of a text by so many bytes. No conditions. -/
namespace Go.Proofs.Ytppmigiknidjhaa.Rk
set_option linter.unusedVariables false
open Go.RowKit Go.Sort Go.Lib Go.Proofs.Ytppmigiknidjhaa.Pre Go.Proofs.Ytppmigiknidjhaa.Srt Go.Proofs.Ytppmigiknidjhaa.Suf

/-- The part of a text that begins at a place. -/
def part (s : ByteArray) (z : Nat) (i : Nat) : ByteArray := s.extract i (min s.size (i + z))
def partL (s : ByteArray) (z : Nat) (i : Nat) : List UInt8 := (part s z i).toList
def lsL (a b : List UInt8) : Bool := Op.bytesLess a b
theorem lsL_eq (a b : List UInt8) : lsL a b = decide (a < b) := Go.Proofs.bytesLess_eq _ _
theorem lsL_irrefl (a : List UInt8) : lsL a a = false := by
  rw [lsL_eq]
  exact decide_eq_false (List.lt_irrefl _)
theorem lsL_trans {a b c : List UInt8} (h1 : lsL a b = true) (h2 : lsL b c = true) : lsL a c = true := by
  rw [lsL_eq] at *
  exact decide_eq_true (List.lt_trans (of_decide_eq_true h1) (of_decide_eq_true h2))
theorem lsL_tri {a b : List UInt8} (h1 : lsL a b = false) (h2 : lsL b a = false) : a = b := by
  rw [lsL_eq] at *
  exact List.le_antisymm (List.not_lt.1 (of_decide_eq_false h2)) (List.not_lt.1 (of_decide_eq_false h1))
theorem lsL_asymm {a b : List UInt8} (h : lsL a b = true) : lsL b a = false := by
  cases h2 : lsL b a with
  | false => rfl
  | true => exact absurd (lsL_trans h h2) (by rw [lsL_irrefl]; decide)
theorem lt_take : ∀ (z : Nat) (a b : List UInt8), lsL a b = true → lsL (b.take z) (a.take z) = false
  | 0, a, b, _ => by
    rw [List.take_zero, List.take_zero]
    exact lsL_irrefl _
  | z + 1, a, [], h => by
    unfold lsL Op.bytesLess at h
    cases a <;> cases h
  | z + 1, [], y :: b, h => by
    unfold lsL
    simp [Op.bytesLess]
  | z + 1, x :: a, y :: b, h => by
    have ih := lt_take z a b
    unfold lsL at *
    simp only [List.take_succ_cons, Op.bytesLess] at *
    simp only [Bool.or_eq_true, decide_eq_true_eq, Bool.and_eq_true, beq_iff_eq] at h
    simp only [Bool.or_eq_false_iff, decide_eq_false_iff_not, Bool.and_eq_false_iff, beq_eq_false_iff_ne]
    rcases h with h | ⟨h1, h2⟩
    · refine ⟨fun h3 => ?_, .inl (fun h3 => ?_)⟩
      · exact absurd (UInt8.lt_trans h h3) (UInt8.lt_irrefl _)
      · subst h3
        exact absurd h (UInt8.lt_irrefl _)
    · subst h1
      exact ⟨UInt8.lt_irrefl _, .inr (ih h2)⟩
theorem part_eq (s : ByteArray) (z i : Nat) : partL s z i = ((suf s i).toList).take z := by
  unfold partL part suf
  rw [ByteArray.toList_eq, ByteArray.toList_eq, ByteArray.data_extract, ByteArray.data_extract, Array.toList_extract, Array.toList_extract, List.extract_eq_take_drop, List.extract_eq_take_drop, List.take_take]
  have hl : (s.data.toList.drop i).length = s.size - i := by
    rw [List.length_drop]
    rfl
  by_cases h : i + z ≤ s.size
  · rw [Nat.min_eq_right h, Nat.min_eq_left (by omega)]
    congr 1
    omega
  · rw [Nat.min_eq_left (by omega), Nat.min_eq_right (by omega)]
theorem partL_inj {s : ByteArray} {z i j : Nat} (h : partL s z i = partL s z j) : part s z i = part s z j := by
  unfold partL at h
  rw [ByteArray.toList_eq, ByteArray.toList_eq] at h
  exact WideShapes.bytes_inj h

/-- The parts, in the order of the endings. -/
def tops (s : ByteArray) (z : Nat) : List (List UInt8) := (sufs s).map (fun x => partL s z x.toNat)
theorem tops_len (s : ByteArray) (z : Nat) : (tops s z).length = s.size := by
  unfold tops
  rw [List.length_map, sufs_len]
theorem tops_sorted (s : ByteArray) (z : Nat) : (tops s z).Pairwise (fun a b => lsL b a = false) := by
  unfold tops
  rw [List.pairwise_map]
  refine (sufs_sorted s).imp ?_
  intro a b h
  rw [part_eq, part_eq]
  exact lt_take z _ _ h
/-- What stands in them, each once. -/
def cs (s : ByteArray) (z : Nat) : List (List UInt8) := compactUpTo (tops s z).toArray (tops s z).toArray.size
theorem tops_step (s : ByteArray) (z : Nat) : ∀ i, i + 1 < (tops s z).toArray.size → (tops s z).toArray[i]! ≠ (tops s z).toArray[i + 1]! → lsL (tops s z).toArray[i]! (tops s z).toArray[i + 1]! = true := by
  intro i hi hne
  have hi2 : i + 1 < (tops s z).length := by simpa using hi
  have h := (List.pairwise_iff_getElem.1 (tops_sorted s z)) i (i + 1) (by omega) hi2 (by omega)
  rw [getElem!_pos _ i (by simpa using (show i < (tops s z).length by omega)), getElem!_pos _ (i + 1) hi] at *
  simp only [List.getElem_toArray] at *
  cases h2 : lsL (tops s z)[i] (tops s z)[i + 1] with
  | true => rfl
  | false => exact absurd (lsL_tri h2 h) hne
theorem cs_sorted (s : ByteArray) (z : Nat) : (cs s z).Pairwise (fun a b => lsL a b = true) := Cpt.whole (lt := fun a b => lsL a b = true) (fun _ _ _ => lsL_trans) _ (tops_step s z)
/-- Where halving finds a part. -/
def rank (s : ByteArray) (z i : Nat) : Nat := bsGo (fun t => lsL ((cs s z).getD t (partL s z i)) (partL s z i)) (cs s z).length 0 (cs s z).length
/-- How many unlike parts the first ones are. -/
def cnt (s : ByteArray) (z m : Nat) : Nat := (compactUpTo (tops s z).toArray m).length
theorem rank_at (s : ByteArray) (z j : Nat) (hj : j < s.size) : 0 < cnt s z (j + 1) ∧ rank s z ((sufs s).getD j 0).toNat = cnt s z (j + 1) - 1 := by
  have hl := tops_len s z
  obtain ⟨h1, h2⟩ := Cpt.place (lt := fun a b => lsL a b = true) (fun _ _ _ => lsL_trans) (tops s z).toArray (tops_step s z) j (by simp; omega)
  refine ⟨h1, ?_⟩
  have e : (tops s z).toArray[j]! = partL s z ((sufs s).getD j 0).toNat := by
    rw [getElem!_pos _ j (by simp; omega)]
    have : j < (sufs s).length := by rw [sufs_len]; exact hj
    simp [tops, this]
  rw [e] at h2
  unfold rank
  refine Cpt.found (lt := fun a b => lsL a b = true) (fun a h => ?_) (fun _ _ _ => lsL_trans) (cs s z) (cs_sorted s z) _ _ _ h2 ?_ ?_
  · rw [lsL_irrefl] at h
    cases h
  · intro t ht
    rw [List.getD_eq_getElem?_getD, List.getElem?_eq_getElem ht]
    exact Iff.rfl
  · intro t ht
    rw [List.getD_eq_getElem?_getD, List.getElem?_eq_none ht]
    exact lsL_irrefl _
theorem cnt_succ (s : ByteArray) (z j : Nat) (hj : j + 1 < s.size) : cnt s z (j + 2) = if part s z ((sufs s).getD (j + 1) 0).toNat = part s z ((sufs s).getD j 0).toNat then cnt s z (j + 1) else cnt s z (j + 1) + 1 := by
  have hl := tops_len s z
  have e : ∀ i, i < s.size → (tops s z).toArray[i]! = partL s z ((sufs s).getD i 0).toNat := by
    intro i hi
    rw [getElem!_pos _ i (by simp; omega)]
    have : i < (sufs s).length := by rw [sufs_len]; exact hi
    simp [tops, this]
  unfold cnt
  rw [compactUpTo_succ]
  by_cases h : part s z ((sufs s).getD (j + 1) 0).toNat = part s z ((sufs s).getD j 0).toNat
  · rw [if_pos h, keeps_neg (by omega) (by rw [show j + 1 - 1 = j by omega, e _ hj, e _ (by omega)]; unfold partL; rw [h])]
    simp
  · rw [if_neg h, keeps_pos (by rw [show j + 1 - 1 = j by omega, e _ hj, e _ (by omega)]; exact fun h2 => h (partL_inj h2))]
    simp
theorem cnt_one (s : ByteArray) (z : Nat) : cnt s z 1 = 1 := by
  unfold cnt
  rw [compactUpTo_succ, keeps_lt_one _ 0 (by omega)]
  simp [compactUpTo]
theorem cnt_le (s : ByteArray) (z : Nat) : ∀ m, cnt s z m ≤ m := by
  intro m
  induction m with
  | zero => simp [cnt, compactUpTo]
  | succ m ih =>
    unfold cnt at *
    rw [compactUpTo_succ]
    split <;> simp <;> omega
def ranks (s : ByteArray) (z : Nat) : List Int := (List.range s.size).map (fun i => ((rank s z i : Nat) : Int))

/-- The parts, sorted, are the parts in the order of the endings. -/
def parts (s : ByteArray) (z : Nat) : List ByteArray := (List.range s.size).map (fun i => part s z i)
def sortedP (s : ByteArray) (z : Nat) : List ByteArray := (parts s z).mergeSort (fun x y => !(ltOf cmpS) y x)
theorem perm_le_eq {α : Type} {r : α → α → Prop} (has : ∀ a b, r a b → r b a → a = b) : ∀ {l1 l2 : List α}, l1.Perm l2 → l1.Pairwise r → l2.Pairwise r → l1 = l2
  | [], l2, h, _, _ => by
    have := h.length_eq
    exact (List.eq_nil_of_length_eq_zero this.symm).symm
  | a :: l1, [], h, _, _ => by
    have := h.length_eq
    cases this
  | a :: l1, b :: l2, h, h1, h2 => by
    rw [List.pairwise_cons] at h1 h2
    have hab : a = b := by
      have ha : a ∈ b :: l2 := h.mem_iff.1 List.mem_cons_self
      have hb : b ∈ a :: l1 := h.mem_iff.2 List.mem_cons_self
      rcases List.mem_cons.1 ha with e | ha
      · exact e
      · rcases List.mem_cons.1 hb with e | hb
        · exact e.symm
        · exact has a b (h1.1 b hb) (h2.1 a ha)
    subst hab
    rw [perm_le_eq has (List.Perm.cons_inv h) h1.2 h2.2]
theorem sortedP_tops (s : ByteArray) (z : Nat) : (sortedP s z).map (fun x => x.toList) = tops s z := by
  refine perm_le_eq (r := fun a b => lsL b a = false) (fun a b h1 h2 => lsL_tri h2 h1) ?_ ?_ (tops_sorted s z)
  · refine ((List.mergeSort_perm _ _).map _).trans ?_
    unfold parts tops
    rw [List.map_map]
    have h := (sufs_perm s).map (fun x => partL s z x.toNat)
    unfold upTo at h
    rw [List.map_map] at h
    refine List.Perm.trans (List.Perm.of_eq ?_) h.symm
    apply List.map_congr_left
    intro i _
    simp [partL]
  · rw [List.pairwise_map]
    have h1 : (sortedP s z).Pairwise (fun a b => (!(ltOf cmpS) b a) = true) := by
      unfold sortedP
      refine List.pairwise_mergeSort ?_ ?_ _
      · intro a b c h1 h2
        simp only [Bool.not_eq_true'] at *
        rw [show ltOf cmpS = fun x y => decide (cmpS x y < 0) from rfl] at *
        simp only [cmp_lt] at *
        exact ltS_ntrans h2 h1
      · intro a b
        simp only [Bool.or_eq_true, Bool.not_eq_true']
        rw [show ltOf cmpS = fun x y => decide (cmpS x y < 0) from rfl] at *
        simp only [cmp_lt] at *
        cases h : ltS b a with
        | false => exact .inl rfl
        | true => exact .inr (ltS_asymm h)
    refine h1.imp ?_
    intro a b h
    simp only [Bool.not_eq_true'] at h
    rw [show ltOf cmpS = fun x y => decide (cmpS x y < 0) from rfl] at h
    simp only [cmp_lt] at h
    exact h
end Go.Proofs.Ytppmigiknidjhaa.Rk
end

section
/- impl.RankOf: the ranks of the places of a text by so many bytes. No conditions. -/
namespace Go.Proofs.Ytppmigiknidjhaa.Rk
set_option linter.unusedVariables false
set_option linter.unusedSimpArgs false
open Go.RowKit Go.Sort Go.Lib Go.Shelf Go.Proofs.Ytppmigiknidjhaa.PQ Go.Proofs.YtppmigiknidjhaaW.PrintWords Go.Proofs.YtppmigiknidjhaaW.PrintLast Go.Proofs.YtppmigiknidjhaaW.PrintMore Go.Proofs.Ytppmigiknidjhaa.Pre Go.Proofs.Ytppmigiknidjhaa.Srt Go.Proofs.Ytppmigiknidjhaa.Suf

/-- What both answer. -/
def ansRank (s : ByteArray) (k d : Int) : List Int × Bool := if s.size ≤ 120 ∧ 1 ≤ k ∧ k ≤ 120 ∧ 0 ≤ d ∧ d ≤ 1 then (ranks s (if d = 1 then k * 2 else k).toNat, true) else ([], false)
theorem within_f (a lo hi : Int) : impl_within.f a lo hi = some (decide (lo ≤ a ∧ a ≤ hi)) := by
  unfold impl_within.f
  by_cases h : a ≥ lo
  · rw [if_pos h]
    simp [h]
  · rw [if_neg h]
    simp
    omega
/-- A row of texts, as far as it is filled. -/
def filledP (s : ByteArray) (z i : Nat) : List ByteArray := (List.range i).map (fun j => part s z j) ++ List.replicate (s.size - i) ⟨#[]⟩
theorem filledP_len (s : ByteArray) (z i : Nat) (h : i ≤ s.size) : (filledP s z i).length = s.size := by
  unfold filledP
  simp
  omega
theorem filledP_set (s : ByteArray) (z i : Nat) (h : i < s.size) : (filledP s z i).set i (part s z i) = filledP s z (i + 1) := by
  unfold filledP
  rw [List.set_append_right _ _ (by simp)]
  rw [show s.size - i = (s.size - (i + 1)) + 1 by omega, List.replicate_succ, List.range_succ]
  simp
theorem filledP_all (s : ByteArray) (z : Nat) : filledP s z s.size = parts s z := by
  unfold filledP parts
  rw [Nat.sub_self, List.replicate_zero, List.append_nil]
def filledR (s : ByteArray) (z i : Nat) : List Int := (List.range i).map (fun j => ((rank s z j : Nat) : Int)) ++ List.replicate (s.size - i) 0
theorem filledR_len (s : ByteArray) (z i : Nat) (h : i ≤ s.size) : (filledR s z i).length = s.size := by
  unfold filledR
  simp
  omega
theorem filledR_set (s : ByteArray) (z i : Nat) (h : i < s.size) : (filledR s z i).set i ((rank s z i : Nat) : Int) = filledR s z (i + 1) := by
  unfold filledR
  rw [List.set_append_right _ _ (by simp)]
  rw [show s.size - i = (s.size - (i + 1)) + 1 by omega, List.replicate_succ, List.range_succ]
  simp
theorem filledR_all (s : ByteArray) (z : Nat) : filledR s z s.size = ranks s z := by
  unfold filledR ranks
  rw [Nat.sub_self, List.replicate_zero, List.append_nil]

/-- A sort of texts by strings.Compare. -/
theorem cmp_bytes : ∀ a b : List UInt8, compareBytes a b = if lsL a b = true then -1 else if lsL b a = true then 1 else 0
  | [], [] => by simp [compareBytes, lsL, Op.bytesLess]
  | [], _ :: _ => by simp [compareBytes, lsL, Op.bytesLess]
  | _ :: _, [] => by simp [compareBytes, lsL, Op.bytesLess]
  | x :: a, y :: b => by
    have ih := cmp_bytes a b
    unfold lsL at *
    simp only [compareBytes, Op.bytesLess]
    by_cases h1 : x < y
    · simp [h1]
    · by_cases h2 : y < x
      · have hne : x ≠ y := fun e => by subst e; exact UInt8.lt_irrefl _ h2
        simp [h1, h2, hne]
      · obtain rfl : x = y := UInt8.le_antisymm (UInt8.not_lt.1 h2) (UInt8.not_lt.1 h1)
        simp [h1, ih]
theorem cmp_cmpS (a b : ByteArray) : compareBytes a.data.toList b.data.toList = cmpS a b := by
  rw [cmp_bytes]
  unfold cmpS ltS lsL
  rw [ByteArray.toList_eq, ByteArray.toList_eq]
theorem swoS : SWO (ltOf cmpS) where
  irrefl x := by show decide (cmpS x x < 0) = false; rw [cmp_lt]; exact ltS_irrefl _
  trans x y z h1 h2 := by
    replace h1 : decide (cmpS x y < 0) = true := h1
    replace h2 : decide (cmpS y z < 0) = true := h2
    show decide (cmpS x z < 0) = true
    rw [cmp_lt] at *
    exact ltS_trans h1 h2
  ntrans x y z h1 h2 := by
    replace h1 : decide (cmpS x y < 0) = false := h1
    replace h2 : decide (cmpS y z < 0) = false := h2
    show decide (cmpS x z < 0) = false
    rw [cmp_lt] at *
    exact ltS_ntrans h1 h2
theorem totS (x y : ByteArray) (h1 : ltOf cmpS x y = false) (h2 : ltOf cmpS y x = false) : x = y := by
  replace h1 : decide (cmpS x y < 0) = false := h1
  replace h2 : decide (cmpS y x < 0) = false := h2
  rw [cmp_lt] at *
  exact ltS_tri h1 h2
theorem laysS (blk size : Nat) (w : World) : CmpLays1 Try.prog 47 #[] Value.string cmpS blk 0 size w := by
  intro m os dk hd x y
  refine (Try.strings_Compare_f47 x y _).mono ?_
  rintro e w' ⟨rfl, rfl⟩
  exact ⟨by rw [← cmp_cmpS], 0, #[], by rw [grow_empty]; rfl⟩


theorem grown_refl (W : World) (r : Option Nat) : W.grownBy W r := ⟨rfl, rfl, rfl, Nat.le_refl _, fun _ _ _ => rfl⟩
theorem sort_calls (xs : List ByteArray) (v : Value) (W : World) (base : Nat) (ok : Nat → Prop) (h : Kd.string.R 9 W base ok v xs) (hx : xs.length ≤ 1048576) :
    Calls Try.prog 46 #[v, .func (.func 47) #[] #[]] W fun e w' => e = .returned (.tuple #[]) ∧ Kd.string.R 9 w' base ok v (xs.mergeSort (fun x y => !(ltOf cmpS) y x)) ∧ W.grownBy w' v.ownBlock := by
  rcases Nat.eq_zero_or_pos xs.length with hz | hp
  · obtain rfl : xs = [] := List.eq_nil_of_length_eq_zero hz
    obtain ⟨A, c, rfl, _, _⟩ := Kd.R_reads h
    refine (Try.slices_SortFunc_none_f46 (α := Nat) A c _ W).mono ?_
    rintro e w' ⟨rfl, rfl⟩
    exact ⟨rfl, by rw [List.mergeSort_nil]; exact h, grown_refl _ _⟩
  · obtain ⟨g, cg, rfl, gb, gl, cells, HG⟩ := Kd.R_form h hp
    obtain ⟨hH, hgl, hgb⟩ := R_holds (enc := Value.string) h
    have HT := Try.slices_SortFunc_total_f46 Value.string (fun _ => rfl) cmpS swoS 47 #[] g 0 cg xs.toArray W
      (enters_of Try.func47 (by kernel_rfl) rfl) (laysS g _ W) hH hgl (by simp; omega) totS
    rw [show xs.toArray.size = xs.length from by simp, show xs.toArray.toList = xs from rfl] at HT
    refine HT.mono ?_
    rintro e w' ⟨rfl, nq, os, rfl⟩
    exact ⟨rfl, R_sorted (enc := Value.string) h (by rw [List.length_mergeSort]) nq os, sort_grown nq os _⟩
/-- A row of texts that is read. -/
def HasL (W : World) (A : Option Addr) (n c : Nat) (C : List ByteArray) : Prop := n = C.length ∧ n ≤ c ∧ Kd.string.C W A n C
theorem HasL.below {W W1 : World} {A : Option Addr} {n c : Nat} {C : List ByteArray} (h : HasL W A n c C) (hb : Below W.heap.size W W1) : HasL W1 A n c C := ⟨h.1, h.2.1, Kd.C_below h.2.2 hb⟩
def enb (l : List UInt8) : ByteArray := ⟨l.toArray⟩
theorem enb_list (l : List UInt8) : (enb l).toList = l := by rw [ByteArray.toList_eq]; rfl
def cc (xs : List ByteArray) : List (List UInt8) := compactUpTo (xs.map (fun x : ByteArray => x.toList)).toArray (xs.map (fun x : ByteArray => x.toList)).toArray.size
theorem compact_calls (xs : List ByteArray) (v : Value) (W : World) (base : Nat) (ok : Nat → Prop) (h : Kd.string.R 9 W base ok v xs) (hx : xs.length ≤ 1048576) :
    Calls Try.prog 48 #[v] W fun e w' => ∃ A n c, e = .returned (.slice A n c) ∧ HasL w' A n c ((cc xs).map enb) ∧ W.grownBy w' v.ownBlock := by
  rcases Nat.eq_zero_or_pos xs.length with hz | hp
  · obtain rfl : xs = [] := List.eq_nil_of_length_eq_zero hz
    obtain ⟨A, c, rfl, _, _⟩ := Kd.R_reads h
    refine (Try.slices_Compact_string_empty_f48 A c W).mono ?_
    rintro e w' ⟨rfl, rfl⟩
    exact ⟨A, 0, c, rfl, ⟨by simp [cc, compactUpTo], Nat.zero_le _, Kd.C_of_reads (d := ByteArray.empty) ⟨by simp [cc, compactUpTo], by omega, fun h => absurd h (Nat.lt_irrefl 0)⟩⟩, grown_refl _ _⟩
  · obtain ⟨g, cg, rfl, gb, gl, cells, HG⟩ := Kd.R_form h hp
    obtain ⟨hH, hgl, hgb⟩ := R_holds (enc := Value.string) h
    obtain ⟨A', c', e', hl', _⟩ := Kd.R_reads h
    injection e' with e1 e2 e3
    have hH2 : Holds encStr W g 0 (xs.map (fun x : ByteArray => x.toList)).toArray := by
      intro j hj
      have hj2 : j < xs.length := by simpa using hj
      obtain ⟨h1, h2⟩ := hH j (by simpa using hj2)
      refine ⟨?_, h2⟩
      rw [h1, getElem!_pos _ j (by simpa using hj2), getElem!_pos _ j hj]
      simp only [List.getElem_toArray, List.getElem_map]
      show some (Value.string xs[j]) = some (Value.string ⟨(xs[j].toList).toArray⟩)
      rw [ByteArray.toList_eq]
    have HT := Try.slices_Compact_string_arr_f48 g 0 cg (xs.map (fun x : ByteArray => x.toList)).toArray W hH2 (by simp; omega) (by simp; omega)
    rw [show (xs.map (fun x : ByteArray => x.toList)).toArray.size = xs.length from by simp] at HT
    refine HT.mono ?_
    rintro e w' ⟨rfl, q, rfl⟩
    have ecc : cc xs = compactUpTo (xs.map (fun x : ByteArray => x.toList)).toArray xs.length := by
      unfold cc
      rw [show (xs.map (fun x : ByteArray => x.toList)).toArray.size = xs.length from by simp]
    have hle : (cc xs).length ≤ xs.length := by
      rw [ecc]
      unfold compactUpTo
      rw [List.length_map]
      refine Nat.le_trans (List.length_filter_le _ _) ?_
      rw [List.length_range]
      exact Nat.le_refl _
    refine ⟨_, _, _, rfl, ⟨by rw [← ecc, List.length_map], by rw [← ecc]; omega, Kd.C_of_reads (d := ByteArray.empty) ⟨by rw [← ecc, List.length_map], by rw [← ecc]; omega, fun hn => ⟨⟨g, 0, none⟩, rfl, fun j hj => ?_⟩⟩⟩, ?_⟩
    · have hh := holds_putRow encStr (Sort.ahead W q) g 0 (xs.map (fun x : ByteArray => x.toList)).toArray (compactUpTo (xs.map (fun x : ByteArray => x.toList)).toArray xs.length ++ List.replicate (xs.length - (compactUpTo (xs.map (fun x : ByteArray => x.toList)).toArray xs.length).length) []).toArray (holds_ahead encStr W q g 0 _ hH2) (by
        rw [← ecc]
        simp
        omega)
      rw [← ecc] at hj hh ⊢
      have hj3 : j < (cc xs ++ List.replicate (xs.length - (cc xs).length) ([] : List UInt8)).toArray.size := by simp; omega
      rw [Rws.add_plain', (hh j hj3).1, getElem!_pos _ j hj3]
      simp only [List.getElem_toArray]
      rw [List.getElem_append_left hj, List.getD_eq_getElem?_getD, List.getElem?_eq_getElem (by rw [List.length_map]; exact hj)]
      simp only [List.getElem_map, Option.getD_some]
      rfl
    · have h1 := sort_grown (enc := encStr) (W := W) (g := g) q #[] (compactUpTo (xs.map (fun x : ByteArray => x.toList)).toArray xs.length ++ List.replicate (xs.length - (compactUpTo (xs.map (fun x : ByteArray => x.toList)).toArray xs.length).length) [])
      unfold sortWorld at h1
      rw [grow_empty] at h1
      exact h1
theorem bsGo_congr (l1 l2 : Nat → Bool) (n : Nat) (h : ∀ t, t < n → l1 t = l2 t) : ∀ (f lo hi : Nat), hi ≤ n → bsGo l1 f lo hi = bsGo l2 f lo hi
  | 0, _, _, _ => rfl
  | f + 1, lo, hi, hh => by
    unfold bsGo
    by_cases hlt : lo < hi
    · rw [if_pos hlt, if_pos hlt, h _ (by omega), bsGo_congr l1 l2 n h f _ _ hh, bsGo_congr l1 l2 n h f lo _ (by omega)]
    · rw [if_neg hlt, if_neg hlt]
theorem less_f (a b : ByteArray) : cmp_Less_string.f a b = some (ltS a b) := by
  unfold cmp_Less_string.f cmp_isNaN_string.f
  simp [ltS]
theorem search_ev (xs : List ByteArray) (x : ByteArray) (hl : xs.length ≤ 1048576) : ∀ (f lo hi : Nat), hi - lo ≤ f → lo ≤ hi → hi ≤ xs.length →
    ∃ b, Evt (fun k => slices_BinarySearch_string_string.l0 k xs x (xs.length : Int) (lo : Int) (hi : Int)) (((bsGo (fun t => ltS (xs.getD t ByteArray.empty) x) f lo hi : Nat) : Int), b) := by
  have hend : ∀ lo hi : Nat, ¬ lo < hi → lo ≤ xs.length → ∃ b, Evt (fun k => slices_BinarySearch_string_string.l0 k xs x (xs.length : Int) (lo : Int) (hi : Int)) ((lo : Int), b) := by
    intro lo hi h1 h2
    by_cases h3 : lo < xs.length
    · by_cases h4 : (rdOf ByteArray.empty xs (lo : Int)).toList = x.toList
      · exact ⟨true, Evt.step (fun k => slices_BinarySearch_string_string.l0.eq_2 _ _ _ _ _ k) (Evt.neg (by omega) (Evt.pos (by omega) (Evt.pos (by omega) (Evt.pos (by omega) (Evt.pos h4 (Evt.const _))))))⟩
      · refine ⟨false, Evt.step (fun k => slices_BinarySearch_string_string.l0.eq_2 _ _ _ _ _ k) (Evt.neg (by omega) (Evt.pos (by omega) (Evt.pos (by omega) (Evt.pos (by omega) (Evt.neg h4 ?_)))))⟩
        unfold slices_isNaN_string.f
        refine Evt.bsome (Evt.neg (by simp) (Evt.const _))
    · exact ⟨_, Evt.step (fun k => slices_BinarySearch_string_string.l0.eq_2 _ _ _ _ _ k) (Evt.neg (by omega) (Evt.neg (by omega) (Evt.const _)))⟩
  intro f
  induction f with
  | zero =>
    intro lo hi h1 h2 h3
    exact hend lo hi (by omega) (by omega)
  | succ f ih =>
    intro lo hi h1 h2 h3
    by_cases hlt : lo < hi
    · unfold bsGo
      rw [if_pos hlt]
      have e1 : wrap64 ((lo : Int) + (hi : Int)) = (lo : Int) + (hi : Int) := w64 (by omega) (by omega)
      have e2 : IntKind.u64.wrap ((lo : Int) + (hi : Int)) = (lo : Int) + (hi : Int) := by
        show ((lo : Int) + (hi : Int)) % 18446744073709551616 = _
        omega
      have e3 : wrap64 (((lo : Int) + (hi : Int)) / 2) = (((lo + hi) / 2 : Nat) : Int) := by
        rw [w64 (by omega) (by omega)]
        omega
      have e4 : rdOf ByteArray.empty xs (((lo + hi) / 2 : Nat) : Int) = xs.getD ((lo + hi) / 2) ByteArray.empty := rfl
      have e5 : wrap64 ((((lo + hi) / 2 : Nat) : Int) + 1) = (((lo + hi) / 2 + 1 : Nat) : Int) := by
        rw [w64 (by omega) (by omega)]
        omega
      by_cases hm : ltS (xs.getD ((lo + hi) / 2) ByteArray.empty) x = true
      · rw [if_pos hm]
        obtain ⟨b, hb⟩ := ih ((lo + hi) / 2 + 1) hi (by omega) (by omega) h3
        refine ⟨b, Evt.step (fun k => slices_BinarySearch_string_string.l0.eq_2 _ _ _ _ _ k) (Evt.pos (by omega) ?_)⟩
        rw [e1, e2, e3]
        refine Evt.pos (by omega) (Evt.pos (by omega) ?_)
        rw [less_f]
        refine Evt.bsome (Evt.pos (by rw [e4]; exact hm) ?_)
        rw [e5]
        exact hb
      · rw [if_neg hm]
        obtain ⟨b, hb⟩ := ih lo ((lo + hi) / 2) (by omega) (by omega) (by omega)
        refine ⟨b, Evt.step (fun k => slices_BinarySearch_string_string.l0.eq_2 _ _ _ _ _ k) (Evt.pos (by omega) ?_)⟩
        rw [e1, e2, e3]
        refine Evt.pos (by omega) (Evt.pos (by omega) ?_)
        rw [less_f]
        exact Evt.bsome (Evt.neg (by rw [e4]; exact hm) hb)
    · obtain ⟨b, hb⟩ := hend lo hi hlt (by omega)
      refine ⟨b, hb.eq ?_⟩
      unfold bsGo
      rw [if_neg hlt]
theorem search_calls (s : ByteArray) (z i : Nat) (W : World) (A : Option Addr) (n c : Nat) (h : HasL W A n c ((cs s z).map enb)) (hn : n ≤ 1048576) :
    Calls Try.prog 49 #[.slice A n c, .string (part s z i)] W fun e w' => (∃ b, e = .returned (.tuple #[.int .i64 ((rank s z i : Nat) : Int), .bool b])) ∧ Drawn0 W w' := by
  obtain ⟨rfl, h1, h2⟩ := h
  obtain ⟨b, hb⟩ := search_ev ((cs s z).map enb) (part s z i) hn ((cs s z).map enb).length 0 ((cs s z).map enb).length (by omega) (by omega) (Nat.le_refl _)
  obtain ⟨k, hk⟩ := hb.ex
  refine (slices_BinarySearch_string_string.calls k A c _ (part s z i) _ b W h2 h1 hk).mono ?_
  rintro e w' ⟨rfl, hd⟩
  refine ⟨⟨b, ?_⟩, hd⟩
  congr 4
  unfold rank
  rw [List.length_map]
  rw [bsGo_congr _ (fun t => lsL ((cs s z).getD t (partL s z i)) (partL s z i)) (cs s z).length (fun t ht => ?_) _ _ _ (Nat.le_refl _)]
  show Op.bytesLess _ _ = Op.bytesLess _ _
  rw [List.getD_eq_getElem?_getD, List.getD_eq_getElem?_getD, List.getElem?_eq_getElem (by rw [List.length_map]; exact ht), List.getElem?_eq_getElem ht]
  simp only [List.getElem_map, Option.getD_some]
  rw [enb_list]
  rfl

theorem bad (s : ByteArray) (k d : Int) (w : World) (hg : ¬ (s.size ≤ 120 ∧ 1 ≤ k ∧ k ≤ 120 ∧ 0 ≤ d ∧ d ≤ 1)) :
    Calls Try.prog 28 #[.string s, .int .i64 k, .int .i64 d] w fun e w' => ∃ v0_ : Value, e = .returned (.tuple #[v0_, .bool false]) ∧ Kd.R (Kd.int .i64) 3 w' w.heap.size (fun _ => True) v0_ [] ∧ Below w.heap.size w w' := by
  have HB := Aside0.mk (Below.refl w.heap.size w)
  by_cases c1 : (s.size : Int) > 120
  · have c5b0 : decide (120 < (s.size : Int)) = true := decide_eq_true c1
    have c5b1 : decide (120 < s.size) = true := decide_eq_true (by omega)
    clear c1 hg
    go_enter Try.func28, Try.ntmps28
    go_wp2
    go_ret2
    exact ⟨_, rfl, Kd.R_nil _ _ _ _ _, HB.out⟩
  · have c5b0 : decide (120 < (s.size : Int)) = false := decide_eq_false c1
    have c5b1 : decide (120 < s.size) = false := decide_eq_false (by omega)
    by_cases ck : 1 ≤ k ∧ k ≤ 120
    · have W1 := Aside0.mk ((within_f k 1 120).trans (by rw [decide_eq_true ck]))
      have W2 := Aside0.mk ((within_f d 0 1).trans (by rw [decide_eq_false (fun h => hg ⟨by omega, ck.1, ck.2, h⟩)]))
      clear c1 hg ck
      go_enter Try.func28, Try.ntmps28
      go_wp2_with (first | (go_at_call 44; (with_reducible refine (impl_within.calls k 1 120 true _ W1.out).mono ?_); rintro e w' ⟨rfl, ⟨nd, rfl⟩⟩) | (go_at_call 44; (with_reducible refine (impl_within.calls d 0 1 false _ W2.out).mono ?_); rintro e w' ⟨rfl, ⟨nd2, rfl⟩⟩))
      go_ret2
      exact ⟨_, rfl, Kd.R_nil _ _ _ _ _, by repeat (first | exact HB.out | apply pw_below_drewN)⟩
    · have W1 := Aside0.mk ((within_f k 1 120).trans (by rw [decide_eq_false ck]))
      clear c1 hg ck
      go_enter Try.func28, Try.ntmps28
      go_wp2_with (first | (go_at_call 44; (with_reducible refine (impl_within.calls k 1 120 false _ W1.out).mono ?_); rintro e w' ⟨rfl, ⟨nd, rfl⟩⟩))
      go_ret2
      exact ⟨_, rfl, Kd.R_nil _ _ _ _ _, by repeat (first | exact HB.out | apply pw_below_drewN)⟩

/-- The row of parts that was made. -/
theorem madeP (s : ByteArray) (z : Nat) (w W : World) (v : Value) (w4 : World) (hB : Below w.heap.size w W) (h : Kd.string.R 9 w4 W.heap.size (fun _ => True) v (List.replicate (s.size : Int).toNat ⟨#[]⟩)) (hb : Below W.heap.size W w4) :
    ∃ A c, Aside0 (Kd.string.R 9 w4 w.heap.size (fun _ => True) (.slice A s.size c) (filledP s z 0)) ∧ v = .slice A s.size c ∧ s.size ≤ c ∧ Aside0 (Below w.heap.size w w4) := by
  have e : List.replicate (s.size : Int).toNat (⟨#[]⟩ : ByteArray) = filledP s z 0 := by
    unfold filledP
    simp
  rw [e] at h
  obtain ⟨A, c, rfl, hl, hc⟩ := Kd.R_reads h
  rw [filledP_len s z 0 (by omega)] at h hl ⊢
  exact ⟨A, c, ⟨Kd.R_lower h (below_size hB)⟩, rfl, hl, ⟨below_step hB hb⟩⟩

theorem madeR (s : ByteArray) (z : Nat) (W : World) (v : Value) (w4 : World) (h : (Kd.int .i64).R 3 w4 W.heap.size (fun _ => True) v (List.replicate (s.size : Int).toNat 0)) (hb : Below W.heap.size W w4) :
    ∃ A c, Aside0 ((Kd.int .i64).R 3 w4 W.heap.size (fun _ => True) (.slice A s.size c) (filledR s z 0)) ∧ v = .slice A s.size c ∧ s.size ≤ c ∧ Aside0 (Below W.heap.size W w4) := by
  have e : List.replicate (s.size : Int).toNat (0 : Int) = filledR s z 0 := by
    unfold filledR
    simp
  rw [e] at h
  obtain ⟨A, c, rfl, hl, hc⟩ := Kd.R_reads h
  rw [filledR_len s z 0 (by omega)] at h hl ⊢
  exact ⟨A, c, ⟨h⟩, rfl, hl, ⟨hb⟩⟩

set_option maxHeartbeats 2000000 in
set_option maxRecDepth 100000 in
theorem good (s : ByteArray) (k d : Int) (z : Nat) (w : World) (hs : s.size ≤ 120) (hk : 1 ≤ k ∧ k ≤ 120) (hd : 0 ≤ d ∧ d ≤ 1) (hz : (if d = 1 then k * 2 else k).toNat = z) :
    Calls Try.prog 28 #[.string s, .int .i64 k, .int .i64 d] w fun e w' => ∃ v0_ : Value, e = .returned (.tuple #[v0_, .bool true]) ∧ Kd.R (Kd.int .i64) 3 w' w.heap.size (fun _ => True) v0_ (ranks s z) ∧ Below w.heap.size w w' := by
  have HB := Aside0.mk (Below.refl w.heap.size w)
  have c5b0 : decide (120 < (s.size : Int)) = false := decide_eq_false (by omega)
  have c5b1 : decide (120 < s.size) = false := decide_eq_false (by omega)
  have W1 := Aside0.mk ((within_f k 1 120).trans (by rw [decide_eq_true hk]))
  have W2 := Aside0.mk ((within_f d 0 1).trans (by rw [decide_eq_true hd]))
  have HS := Aside0.mk hs
  have hd2 : d = 0 ∨ d = 1 := by omega
  have HZ := Aside0.mk hz
  have HK := Aside0.mk hk
  clear hs hz hd hk
  go_enter Try.func28, Try.ntmps28
  go_upto_region 3 with (first | (go_at_call 44; (with_reducible refine (impl_within.calls k 1 120 true _ W1.out).mono ?_); rintro e w' ⟨rfl, ⟨nd, rfl⟩⟩) | (go_at_call 44; (with_reducible refine (impl_within.calls d 0 1 true _ W2.out).mono ?_); rintro e w' ⟨rfl, ⟨nd2, rfl⟩⟩))
  go_cut [8] (fun v8 wc => v8 = .int .i64 (z : Int) ∧ Aside0 (Below w.heap.size w wc))
  case first =>
    rcases hd2 with rfl | rfl
    · go_wp2
      go_meet
      case rel =>
        refine ⟨?_, ⟨by repeat (first | exact HB.out | apply pw_below_drewN)⟩⟩
        have h1 := HZ.out
        have h2 := HK.out
        rw [if_neg (by decide)] at h1
        rw [w64 (by omega) (by omega)]
        congr 1
        omega
    · go_wp2
      go_meet
      case rel =>
        refine ⟨?_, ⟨by repeat (first | exact HB.out | apply pw_below_drewN)⟩⟩
        have h1 := HZ.out
        have h2 := HK.out
        simp only [if_true] at h1
        rw [w64 (by omega) (by omega)]
        congr 1
        omega
  case rest =>
    obtain ⟨rfl, HB⟩ := hcut
    have hs2 : (s.size : Int) ≤ 120 := by have := HS.out; omega
    have hzb : (z : Int) ≤ 240 := by
      have h1 := HZ.out
      have h2 := HK.out
      split at h1 <;> omega
    have HZB := Aside0.mk hzb
    clear hd2 c5b0 c5b1 HZ HK W1 W2 hzb
    go_wp2_with (first | ((with_reducible refine gate_dst (N := 33) rfl ?_); go_loud (refine Kd.R_make Kd.string _ 9 rfl (N := 33) rfl 38 _ _ rfl (s.size : Int) rfl rfl Try.underlying38 (.string ⟨#[]⟩) 16 info9 rfl (by decide) (by omega) (⟨#[]⟩ : ByteArray) (ok := fun _ => True) (okp := fun _ => True) rfl (fun _ hk => hk) trivial (by omega) (by omega) (Below.refl _ _) (Nat.le_refl _) ?_; intro v33 w4 ho5 hb hg_ hnew_; clear hg_ hnew_; obtain ⟨A9, c9, HO, HA, HL, HB2⟩ := madeP s z w _ v33 w4 HB.out ho5 hb; clear ho5 hb; subst HA)))
    go_loopg [10, 36] s.size (fun kq v10 v36 w' => ∃ i : Nat, v36 = .int .i64 (i : Int) ∧ i ≤ s.size ∧ kq = s.size - i ∧ Aside0 (Kd.string.R 9 w' w.heap.size (fun _ => True) (.slice A9 s.size c9) (filledP s z i)) ∧ Aside0 (Below w.heap.size w w'))
    case atStart => exact ⟨0, rfl, by omega, by omega, HO, HB2⟩
    case round =>
      obtain ⟨i, rfl, hi, hk, HO1, HB3⟩ := hrel
      by_cases hlt : i < s.size
      · obtain ⟨g, cg, eg, gb, gl, cells, HG⟩ := Kd.R_form HO1.out (by rw [filledP_len s z i hi]; omega)
        rw [filledP_len s z i hi] at eg
        injection eg with e1 e2 e3
        subst e1 e3
        obtain ⟨hx, hf⟩ := Kd.R_celln (⟨#[]⟩ : ByteArray) HO1.out (i : Int) (by omega) (by omega)
        rw [Int.toNat_natCast] at hx hf
        have HP := Aside0.mk (Kd.R_putn HO1.out (i : Int) (part s z i))
        rw [Int.toNat_natCast, filledP_set s z i hlt] at HP
        have GB := Aside0.mk gb
        clear HG gl gb
        have hi2 : (i : Int) < (s.size : Int) := by omega
        obtain ⟨m, hm⟩ : ∃ m : Nat, m = i + z := ⟨_, rfl⟩
        have hw : wrap64 ((i : Int) + (z : Int)) = (m : Int) := by rw [w64 (by omega) (by have := HZB.out; omega)]; omega
        have hm1 : (i : Int) ≤ (m : Int) := by omega
        have HM := Aside0.mk hm
        clear hm
        by_cases hms : m ≤ s.size
        · have hp2 : part s z i = s.extract i m := by unfold part; rw [← HM.out, Nat.min_eq_right (by omega)]
          rw [hp2] at HP
          clear hp2
          have hms2 : (m : Int) ≤ (s.size : Int) := by omega
          have hms3 : min (s.size : Int) (m : Int) = (m : Int) := Int.min_eq_right hms2
          go_wp2
          all_goals first
            | (have hm9 : s.size = m := by omega
               rw [hm9]
               rw [hm9] at HP
               go_roundg (m - (i + 1))
               case measure => omega
               case rel => exact ⟨i + 1, by go_num, by omega, by omega, ⟨HP.out⟩, ⟨HB3.out.setCell GB.out _⟩⟩)
            | (go_roundg (s.size - (i + 1))
               case measure => omega
               case rel => exact ⟨i + 1, by go_num, by omega, by omega, ⟨HP.out⟩, ⟨HB3.out.setCell GB.out _⟩⟩)
        · have hp2 : part s z i = s.extract i s.size := by unfold part; rw [← HM.out, Nat.min_eq_left (by omega)]
          rw [hp2] at HP
          clear hp2
          have hms2 : (s.size : Int) ≤ (m : Int) := by omega
          have hms3 : min (s.size : Int) (m : Int) = (s.size : Int) := Int.min_eq_left hms2
          have hms4 : ¬ ((m : Int) < (s.size : Int)) := by omega
          have hms5 : ¬ (m < s.size) := by omega
          go_wp2
          go_roundg (s.size - (i + 1))
          case measure => omega
          case rel => exact ⟨i + 1, by go_num, by omega, by omega, ⟨HP.out⟩, ⟨HB3.out.setCell GB.out _⟩⟩
      · obtain rfl : i = s.size := by omega
        have h2 := HO1.out
        rw [filledP_all] at h2
        have hpl : (parts s z).length = s.size := by simp [parts]
        obtain ⟨A0, c0, e0, hl0, hC0⟩ := Kd.R_reads h2
        injection e0 with e1 e2 e3
        subst e1 e3
        have hcl := Rws.clone_str A9 c9 (parts s z) wr hC0 (by rw [hpl]; have := HS.out; omega)
        rw [hpl] at hcl
        have HCL := Aside0.mk hcl
        have HP1 := Aside0.mk (Kd.R_bound h2)
        clear hcl h2 hC0 hl0 e2 HO1
        clear HO
        go_upto_region 11 with (go_at_call 45; go_loud ((with_reducible refine HCL.out.mono ?_); rintro e w5 ⟨v5, rfl, ho, hb⟩; have HO5 := Aside0.mk ho; have HB5 := Aside0.mk hb; clear ho hb))
        have HP5 := Aside0.mk (Kd.R_below HP1.out HB5.out)
        have HN5 := Aside0.mk (fun (k : Nat) (hk : v5.ownBlock = some k) => ((Kd.R_bound HO5.out).1 k hk).2.1)
        go_upto_region 12 with (go_at_call 46; go_loud ((with_reducible refine (sort_calls (parts s z) _ _ _ _ HO5.out (by rw [hpl]; have := HS.out; omega)).mono ?_); rintro e w6 ⟨rfl, ho, hg⟩; have HO6 := Aside0.mk ho; have HG6 := Aside0.mk hg; clear ho hg))
        have HP6 := Aside0.mk (Kd.R_grown HP5.out HG6.out (fun k hk e => by have h1 := HN5.out k e.symm; have h2 := hk.2.2.1; omega))
        have HB6 := Aside0.mk ((below_step HB3.out HB5.out).grown HG6.out (by have h1 := HB3.out.size; have h2 := HB5.out.size; omega) (fun k hk => by have h1 := HN5.out k hk; have h2 := HB3.out.size; omega))
        have hsl : ((parts s z).mergeSort (fun x y => !(ltOf cmpS) y x)).length ≤ 1048576 := by rw [List.length_mergeSort, hpl]; have := HS.out; omega
        have HSL := Aside0.mk hsl
        clear hsl
        go_upto_region 13 with (go_at_call 48; go_loud ((with_reducible refine (compact_calls _ _ _ _ _ HO6.out HSL.out).mono ?_); rintro e w7 ⟨A7, n7, c7, rfl, hL, hg⟩; have HL7 := Aside0.mk hL; have HG7 := Aside0.mk hg; clear hL hg))
        have hcs : cc ((parts s z).mergeSort (fun x y => !(ltOf cmpS) y x)) = cs s z := by
          unfold cc cs
          rw [show ((parts s z).mergeSort (fun x y => !(ltOf cmpS) y x)).map (fun x : ByteArray => x.toList) = tops s z from sortedP_tops s z]
        have HL := Aside0.mk (show HasL w7 A7 n7 c7 ((cs s z).map enb) from hcs ▸ HL7.out)
        have HP7 := Aside0.mk (Kd.R_grown HP6.out HG7.out (fun k hk e => by have h1 := HN5.out k e.symm; have h2 := hk.2.2.1; omega))
        have HB7 := Aside0.mk (HB6.out.grown HG7.out HB6.out.size (fun k hk => by have h1 := HN5.out k hk; have h2 := HB3.out.size; omega))
        have hn7 : n7 ≤ 1048576 := by
          rw [HL.out.1, List.length_map]
          have := cnt_le s z (tops s z).toArray.size
          unfold cnt at this
          unfold cs
          have h3 := tops_len s z
          have h4 := HS.out
          simp at this
          simp
          omega
        have HN7 := Aside0.mk hn7
        clear hcs hn7 HP6 HP5 HB6 HL7 HG7 HG6 HO6 HSL HCL HB5 HO5 HP1
        go_wp2_with (first | ((with_reducible refine gate_dst (N := 60) rfl ?_); go_loud (refine Kd.R_make (Kd.int .i64) _ 3 rfl (N := 60) rfl 22 _ _ rfl (s.size : Int) rfl rfl Try.underlying22 (.int .i64 0) 8 info3 rfl (by decide) (by omega) 0 (ok := fun _ => True) (okp := fun _ => True) rfl (fun _ hk => hk) trivial (by omega) (by omega) (Below.refl _ _) (Nat.le_refl _) ?_; intro v60 w8 ho5 hb hg_ hnew_; clear hg_ hnew_; obtain ⟨A8, c8, HO8, HA8, HL8, HB8⟩ := madeR s z w7 v60 w8 ho5 hb; clear ho5 hb; subst HA8)))
        go_loopg [63] s.size (fun kq v63 w' => ∃ i : Nat, v63 = .int .i64 (i : Int) ∧ i ≤ s.size ∧ kq = s.size - i ∧ Aside0 (Kd.R (Kd.int .i64) 3 w' w7.heap.size (fun _ => True) (.slice A8 s.size c8) (filledR s z i)) ∧ Aside0 (Below w7.heap.size w7 w'))
        case atStart => exact ⟨0, rfl, by omega, by omega, HO8, HB8⟩
        case round =>
          obtain ⟨i, rfl, hi, hk, HO1, HBx⟩ := hrel
          by_cases hlt : i < s.size
          · obtain ⟨g8, cg, eg, gb, gl, cells, HG⟩ := Kd.R_form HO1.out (by rw [filledR_len s z i hi]; omega)
            rw [filledR_len s z i hi] at eg
            injection eg with e1 e2 e3
            subst e1 e3
            obtain ⟨hx, hf⟩ := Kd.R_celln 0 HO1.out (i : Int) (by omega) (by omega)
            rw [Int.toNat_natCast] at hx hf
            have GB := Aside0.mk gb
            clear HG gl gb cells
            have HPw := Aside0.mk (Kd.R_below HP7.out HBx.out)
            obtain ⟨g9, cg9, eg, gb, gl, cells, HG⟩ := Kd.R_form HPw.out (by omega)
            rw [hpl] at eg
            injection eg with e1 e2 e3
            subst e1 e3
            obtain ⟨hxp, hfp⟩ := Kd.R_celln (⟨#[]⟩ : ByteArray) HPw.out (i : Int) (by omega) (by omega)
            rw [Int.toNat_natCast] at hxp hfp
            have epart : rdOf (⟨#[]⟩ : ByteArray) (parts s z) (i : Int) = part s z i := by
              unfold rdOf parts
              simp [hlt]
            rw [epart] at hxp
            clear HG gl gb cells epart hfp
            have hi2 : (i : Int) < (s.size : Int) := by omega
            go_wp2_with (go_at_call 49; go_loud ((with_reducible refine (search_calls s z i _ A7 n7 c7 (HL.out.below HBx.out) HN7.out).mono ?_); rintro e w' ⟨⟨b9, rfl⟩, ⟨nd9, rfl⟩⟩; have HP := Aside0.mk (Kd.R_putn (Kd.R_drewN HO1.out nd9) (i : Int) ((rank s z i : Nat) : Int)); rw [Int.toNat_natCast, filledR_set s z i hlt] at HP))
            go_roundg (s.size - (i + 1))
            case measure => omega
            case rel => exact ⟨i + 1, by go_num, by omega, by omega, ⟨HP.out⟩, ⟨(pw_below_drewN HBx.out _).setCell GB.out _⟩⟩
          · obtain rfl : i = s.size := by omega
            have HBE := Aside0.mk (below_step HB7.out HBx.out)
            have h2 := HO1.out
            rw [filledR_all] at h2
            have HRE := Aside0.mk (Kd.R_lower h2 HB7.out.size)
            clear h2
            go_wp2
            go_ret2
            exact ⟨_, rfl, HRE.out, HBE.out⟩
theorem calls (s : ByteArray) (k d : Int) (w : World) :
    Calls Try.prog 28 #[.string s, .int .i64 k, .int .i64 d] w fun e w' => ∃ v0_ : Value, e = .returned (.tuple #[v0_, .bool (ansRank s k d).2]) ∧ Kd.R (Kd.int .i64) 3 w' w.heap.size (fun _ => True) v0_ (ansRank s k d).1 ∧ Below w.heap.size w w' := by
  unfold ansRank
  by_cases hg : s.size ≤ 120 ∧ 1 ≤ k ∧ k ≤ 120 ∧ 0 ≤ d ∧ d ≤ 1
  · rw [if_pos hg]
    exact good s k d _ w hg.1 ⟨hg.2.1, hg.2.2.1⟩ hg.2.2.2 rfl
  · rw [if_neg hg]
    exact bad s k d w hg
end Go.Proofs.Ytppmigiknidjhaa.Rk
end

section
/- Ranks by so many bytes tell ranks by twice as many. No conditions. -/
namespace Go.Proofs.Ytppmigiknidjhaa.Rk
set_option linter.unusedVariables false
open Go.RowKit Go.Sort Go.Lib Go.Proofs.Ytppmigiknidjhaa.Pre Go.Proofs.Ytppmigiknidjhaa.Srt Go.Proofs.Ytppmigiknidjhaa.Suf

theorem place_of (s : ByteArray) (i : Nat) (hi : i < s.size) : ∃ j, j < s.size ∧ (sufs s).getD j 0 = (i : Int) := by
  have hm : (i : Int) ∈ sufs s := (sufs_perm s).mem_iff.2 (by unfold upTo; exact List.mem_map.2 ⟨i, List.mem_range.2 hi, rfl⟩)
  obtain ⟨t, ht, e⟩ := List.mem_iff_getElem.1 hm
  refine ⟨t, by rw [← sufs_len s]; exact ht, ?_⟩
  rw [List.getD_eq_getElem?_getD, List.getElem?_eq_getElem ht, Option.getD_some, e]
theorem rank_get (s : ByteArray) (z i : Nat) (hi : i < s.size) : (cs s z)[rank s z i]? = some (partL s z i) := by
  obtain ⟨j, hj, e⟩ := place_of s i hi
  have hl := tops_len s z
  have h1 := (rank_at s z j hj).2
  rw [e, Int.toNat_natCast] at h1
  obtain ⟨_, h2⟩ := Cpt.place (lt := fun a b => lsL a b = true) (fun _ _ _ => lsL_trans) (tops s z).toArray (tops_step s z) j (by simp; omega)
  have e2 : (tops s z).toArray[j]! = partL s z i := by
    rw [getElem!_pos _ j (by simp; omega)]
    have h3 : j < (sufs s).length := by rw [sufs_len]; exact hj
    rw [List.getD_eq_getElem?_getD, List.getElem?_eq_getElem h3, Option.getD_some] at e
    simp [tops, e]
  rw [e2] at h2
  rw [h1]
  exact h2
theorem rank_lt (s : ByteArray) (z i j : Nat) (hi : i < s.size) (hj : j < s.size) : rank s z i < rank s z j ↔ lsL (partL s z i) (partL s z j) = true := by
  have h1 := rank_get s z i hi
  have h2 := rank_get s z j hj
  generalize rank s z i = a at *
  generalize rank s z j = b at *
  obtain ⟨h1l, h1e⟩ := List.getElem?_eq_some_iff.1 h1
  obtain ⟨h2l, h2e⟩ := List.getElem?_eq_some_iff.1 h2
  have hs := List.pairwise_iff_getElem.1 (cs_sorted s z)
  constructor
  · intro h
    have := hs a b h1l h2l h
    rw [h1e, h2e] at this
    exact this
  · intro h
    rcases Nat.lt_trichotomy a b with h3 | h3 | h3
    · exact h3
    · subst h3
      rw [← h1e, ← h2e, lsL_irrefl] at h
      cases h
    · have := hs b a h2l h1l h3
      rw [h1e, h2e] at this
      rw [lsL_asymm this] at h
      cases h
theorem rank_eq (s : ByteArray) (z i j : Nat) (hi : i < s.size) (hj : j < s.size) : rank s z i = rank s z j ↔ partL s z i = partL s z j := by
  have h1 := rank_lt s z i j hi hj
  have h2 := rank_lt s z j i hj hi
  constructor
  · intro h
    refine lsL_tri ?_ ?_
    · cases h3 : lsL (partL s z i) (partL s z j) with
      | false => rfl
      | true => have := h1.2 h3; rw [h] at this; exact absurd this (Nat.lt_irrefl _)
    · cases h3 : lsL (partL s z j) (partL s z i) with
      | false => rfl
      | true => have := h2.2 h3; rw [h] at this; exact absurd this (Nat.lt_irrefl _)
  · intro h
    rw [h, lsL_irrefl] at h1
    rw [h, lsL_irrefl] at h2
    generalize rank s z i = a at *
    generalize rank s z j = b at *
    rcases Nat.lt_trichotomy a b with h3 | h3 | h3
    · exact absurd (h1.1 h3) (by simp)
    · exact h3
    · exact absurd (h2.1 h3) (by simp)
theorem lex_take : ∀ (K M : Nat) (x y : List UInt8), lsL (x.take (K + M)) (y.take (K + M)) = (lsL (x.take K) (y.take K) || (decide (x.take K = y.take K) && lsL ((x.drop K).take M) ((y.drop K).take M)))
  | 0, M, x, y => by
    rw [List.take_zero, List.take_zero, lsL_irrefl]
    simp
  | K + 1, M, x, [] => by
    rw [List.take_nil, List.take_nil]
    have h : ∀ l, lsL l [] = false := fun l => by unfold lsL; cases l <;> rfl
    rw [h, h]
    simp [h]
  | K + 1, M, [], b :: y => by
    rw [show K + 1 + M = (K + M) + 1 by omega, List.take_succ_cons, List.take_succ_cons, List.take_nil, List.take_nil]
    have h : ∀ l, lsL [] (b :: l) = true := fun l => by unfold lsL; rfl
    rw [h, h]
    simp
  | K + 1, M, a :: x, b :: y => by
    have ih := lex_take K M x y
    rw [show K + 1 + M = (K + M) + 1 by omega, List.take_succ_cons, List.take_succ_cons, List.take_succ_cons, List.take_succ_cons, List.drop_succ_cons, List.drop_succ_cons]
    have h : ∀ l m, lsL (a :: l) (b :: m) = (decide (a < b) || (a == b && lsL l m)) := fun l m => by unfold lsL; rfl
    rw [h, h, ih]
    by_cases h1 : a < b
    · simp [h1]
    · by_cases h2 : a = b
      · subst h2
        simp [h1]
      · have h3 : ¬ (a :: x.take K = b :: y.take K) := fun e => h2 (List.cons.inj e).1
        have h4 : (a == b) = false := by simpa using h2
        simp [h1, h4, h3]
theorem sufL (s : ByteArray) (i : Nat) : (suf s i).toList = s.data.toList.drop i := by
  unfold suf
  rw [ByteArray.toList_eq, ByteArray.data_extract, Array.toList_extract, List.extract_eq_take_drop, List.take_of_length_le]
  rw [List.length_drop]
  exact Nat.le_refl _
theorem behind (s : ByteArray) (K i : Nat) : (((suf s i).toList).drop K).take K = partL s K (i + K) := by
  rw [part_eq, sufL, sufL, List.drop_drop]
/-- The rank behind a place, or -1. -/
def beh (n : Nat) (ra : Nat → Nat) (K i : Nat) : Int := if i + K < n then ((ra (i + K) : Nat) : Int) else -1
theorem part_nil (s : ByteArray) (K i : Nat) (h : s.size ≤ i) : partL s K i = [] := by
  rw [part_eq, sufL, List.drop_eq_nil_of_le (by exact h)]
  simp
theorem part_ne (s : ByteArray) (K i : Nat) (hK : 1 ≤ K) (h : i < s.size) : partL s K i ≠ [] := by
  rw [part_eq, sufL]
  intro e
  have := congrArg List.length e
  rw [List.length_take, List.length_drop] at this
  have h2 : s.data.toList.length = s.size := rfl
  rw [h2] at this
  simp at this
  omega
theorem beh_lt (s : ByteArray) (K i j : Nat) (hK : 1 ≤ K) : beh s.size (rank s K) K i < beh s.size (rank s K) K j ↔ lsL (partL s K (i + K)) (partL s K (j + K)) = true := by
  unfold beh
  by_cases hj : j + K < s.size
  · rw [if_pos hj]
    by_cases hi : i + K < s.size
    · rw [if_pos hi, ← rank_lt s K _ _ hi hj]
      generalize rank s K (i + K) = a
      generalize rank s K (j + K) = b
      omega
    · rw [if_neg hi, part_nil s K (i + K) (by omega)]
      have h1 := part_ne s K (j + K) hK hj
      generalize rank s K (j + K) = b
      constructor
      · intro _
        cases h2 : partL s K (j + K) with
        | nil => exact absurd h2 h1
        | cons a l => unfold lsL; rfl
      · intro _
        omega
  · rw [if_neg hj, part_nil s K (j + K) (by omega)]
    have h : ∀ l, lsL l [] = false := fun l => by unfold lsL; cases l <;> rfl
    rw [h]
    constructor
    · intro h2
      split at h2
      · generalize rank s K (i + K) = a at *
        omega
      · omega
    · intro h2
      cases h2
theorem doubled (s : ByteArray) (K i j : Nat) (hK : 1 ≤ K) (hi : i < s.size) (hj : j < s.size) :
    (rank s K i < rank s K j ∨ (rank s K i = rank s K j ∧ beh s.size (rank s K) K i < beh s.size (rank s K) K j)) ↔ rank s (K + K) i < rank s (K + K) j := by
  rw [rank_lt s K i j hi hj, rank_eq s K i j hi hj, rank_lt s (K + K) i j hi hj, beh_lt s K i j hK]
  rw [part_eq s (K + K), part_eq s (K + K), lex_take, behind, behind, ← part_eq, ← part_eq]
  simp
end Go.Proofs.Ytppmigiknidjhaa.Rk
end

section
/- The reference's ranks are the program's. No conditions. -/
namespace Go.Proofs.Ytppmigiknidjhaa.Rk
set_option linter.unusedVariables false
open Go.RowKit Go.Sort Go.Lib Go.Proofs.Ytppmigiknidjhaa.PQ Go.Proofs.YtppmigiknidjhaaW.PrintWords Go.Proofs.YtppmigiknidjhaaW.PrintLast Go.Proofs.Ytppmigiknidjhaa.Pre Go.Proofs.Ytppmigiknidjhaa.Srt Go.Proofs.Ytppmigiknidjhaa.Suf

theorem in_f (a lo hi : Int) : spec_l1In.f a lo hi = some (decide (lo ≤ a ∧ a ≤ hi)) := by
  unfold spec_l1In.f
  by_cases h : a ≥ lo
  · rw [if_pos h]
    simp [h]
  · rw [if_neg h]
    simp
    omega
theorem ext_part (s : ByteArray) (Z i : Nat) : (suf s i).extract 0 Z = part s Z i := by
  apply Byt.toList_inj
  show _ = partL s Z i
  rw [part_eq, ByteArray.toList_eq, ByteArray.toList_eq, ByteArray.data_extract, Array.toList_extract, List.extract_eq_take_drop]
  simp
theorem suf_part (s : ByteArray) (Z i : Nat) (hi : i ≤ s.size) (h : s.size - i ≤ Z) : suf s i = part s Z i := by
  apply Byt.toList_inj
  show _ = partL s Z i
  rw [part_eq, List.take_of_length_le]
  rw [ByteArray.toList_eq]
  show (suf s i).size ≤ Z
  rw [suf_size s i hi]
  exact h
theorem getD_sufs (s : ByteArray) (j : Nat) (hj : j < s.size) : ∃ i : Nat, (sufs s).getD j 0 = (i : Int) ∧ i < s.size ∧ rd (sufs s) (j : Int) = (i : Int) := by
  have hl : j < (sufs s).length := by rw [sufs_len]; exact hj
  obtain ⟨i, e, hi⟩ := sufs_mem s _ (List.getElem_mem hl)
  refine ⟨i, ?_, hi, ?_⟩
  · rw [← e]
    simp [hl]
  · rw [← e]
    exact Ints.rd_get _ j hl
theorem rank_end (s : ByteArray) (rk : Nat → Nat) (out : List Int) (hl : out.length = s.size) (h : ∀ t, t < s.size → out[((sufs s).getD t 0).toNat]? = some ((rk ((sufs s).getD t 0).toNat : Nat) : Int)) : out = (List.range s.size).map (fun i => ((rk i : Nat) : Int)) := by
  apply List.ext_getElem?
  intro i
  by_cases hi : i < s.size
  · have hm : (i : Int) ∈ sufs s := (sufs_perm s).mem_iff.2 (by unfold upTo; exact List.mem_map.2 ⟨i, List.mem_range.2 hi, rfl⟩)
    obtain ⟨t, ht, e⟩ := List.mem_iff_getElem.1 hm
    have ht2 : t < s.size := by rw [← sufs_len s]; exact ht
    have := h t ht2
    rw [List.getD_eq_getElem?_getD, List.getElem?_eq_getElem ht, Option.getD_some, e, Int.toNat_natCast] at this
    rw [this]
    simp [hi]
  · rw [List.getElem?_eq_none (by omega), List.getElem?_eq_none (by simp; omega)]
set_option maxHeartbeats 1000000 in
theorem rank_loop (s : ByteArray) (Z : Nat) (hs : s.size ≤ 120) (hZ : Z ≤ 240) (L : List Int) (hL : L.length = s.size) (hm : ∀ j, j < s.size → ∃ i : Nat, L.getD j 0 = (i : Int) ∧ i < s.size ∧ rd L (j : Int) = (i : Int)) (rk cn : Nat → Nat) (HE : ∀ out : List Int, out.length = s.size → (∀ t, t < s.size → out[(L.getD t 0).toNat]? = some ((rk (L.getD t 0).toNat : Nat) : Int)) → out = (List.range s.size).map (fun i => ((rk i : Nat) : Int))) (H1 : ∀ j, j < s.size → 0 < cn (j + 1) ∧ rk (L.getD j 0).toNat = cn (j + 1) - 1)
    (H2 : ∀ j, j + 1 < s.size → cn (j + 2) = if part s Z (L.getD (j + 1) 0).toNat = part s Z (L.getD j 0).toNat then cn (j + 1) else cn (j + 1) + 1) (H3 : cn 1 = 1) (H4 : ∀ m, cn m ≤ m) : ∀ (m j : Nat) (x8 : List Int) (last : ByteArray) (n : Int) (out : List Int), j + m = s.size → x8.length = j → (j = 0 → n = -1) → (0 < j → n = (cn j : Int) - 1 ∧ last = part s Z (L.getD (j - 1) 0).toNat) → out.length = s.size →
    (∀ t, t < j → out[(L.getD t 0).toNat]? = some ((rk (L.getD t 0).toNat : Nat) : Int)) →
    Evt (fun k => spec_RankOf.l0 k s (Z : Int) x8 last n out L (L.length : Int) (j : Int)) ((List.range s.size).map (fun i => ((rk i : Nat) : Int)), true) := by
  intro m
  induction m with
  | zero =>
    intro j x8 last n out hj hx h0 h1 hl ho
    refine Evt.step (fun k => spec_RankOf.l0.eq_2 _ _ _ _ _ _ _ _ _ k) (Evt.neg (by omega) ((Evt.const _).eq ?_))
    rw [HE out hl (fun t ht => ho t (by omega))]
    have : (x8.length : Int) = (s.size : Int) := by omega
    rw [this]
    simp
  | succ m ih =>
    intro j x8 last n out hj hx h0 h1 hl ho
    obtain ⟨i, ei, hi, er⟩ := hm j (by omega)
    obtain ⟨hc0, hra⟩ := H1 j (by omega)
    rw [ei, Int.toNat_natCast] at hra
    have hcl := H4 (j + 1)
    have fin : ∀ n' : Int, n' = (cn (j + 1) : Int) - 1 → Evt (fun k => spec_RankOf.l0 k s (Z : Int) (x8 ++ [n']) (part s Z i) n' (out.set ((i : Int)).toNat n') L (L.length : Int) ((j + 1 : Nat) : Int)) ((List.range s.size).map (fun i => ((rk i : Nat) : Int)), true) := by
      intro n' hn
      have hn2 : n' = ((rk i : Nat) : Int) := by rw [hn, hra]; omega
      refine ih (j + 1) _ _ _ _ (by omega) (by simp; omega) (by omega) (fun _ => ⟨hn, by rw [Nat.add_sub_cancel, ei, Int.toNat_natCast]⟩) (by simp; omega) ?_
      intro t ht
      rw [Int.toNat_natCast]
      by_cases htj : t = j
      · subst htj
        rw [ei, Int.toNat_natCast, List.getElem?_set_self (by omega), hn2]
      · obtain ⟨i2, ei2, hi2, _⟩ := hm t (by omega)
        by_cases hii : i2 = i
        · subst hii
          rw [ei2, Int.toNat_natCast, List.getElem?_set_self (by omega), hn2]
        · have := ho t (by omega)
          rw [ei2, Int.toNat_natCast] at this ⊢
          rw [List.getElem?_set_ne (by omega)]
          exact this
    refine Evt.step (fun k => spec_RankOf.l0.eq_2 _ _ _ _ _ _ _ _ _ k) (Evt.pos (by omega) (Evt.pos (by omega) (Evt.pos (by omega) ?_)))
    rw [er]
    clear er
    refine Evt.pos (by omega) (Evt.pos (by omega) ?_)
    rw [show s.extract ((i : Int)).toNat s.size = suf s i by rw [Int.toNat_natCast]; rfl, w64 (n := (j : Int) + 1) (by omega) (by omega), show (j : Int) + 1 = ((j + 1 : Nat) : Int) by omega]
    have hnb : -1 ≤ n ∧ n ≤ 200 := by
      by_cases hj0 : j = 0
      · have := h0 hj0
        omega
      · have h2 := (h1 (by omega)).1
        have := H4 j
        omega
    rw [w64 (n := n + 1) (by omega) (by omega)]
    by_cases hz : Z < s.size - i
    case' pos =>
      refine Evt.pos (by rw [suf_size s i (by omega)]; omega) (Evt.pos (by omega) (Evt.pos (by rw [suf_size s i (by omega)]; omega) ?_))
      rw [Int.toNat_natCast Z, ext_part]
    case' neg =>
      refine Evt.neg (by rw [suf_size s i (by omega)]; omega) ?_
      rw [suf_part s Z i (by omega) (by omega)]
    all_goals
      by_cases hj0 : j = 0
      · subst hj0
        have e1 := H3
        have hn := h0 rfl
        exact Evt.pos (by omega) (Evt.pos (by omega) (Evt.pos (by omega) (fin (n + 1) (by omega))))
      · obtain ⟨a1, a2⟩ := h1 (by omega)
        have hc := (H1 (j - 1) (by omega)).1
        rw [show j - 1 + 1 = j by omega] at hc
        have hs1 := H2 (j - 1) (by omega)
        rw [show j - 1 + 1 = j by omega, show j - 1 + 2 = j + 1 by omega, ei, Int.toNat_natCast, ← a2] at hs1
        refine Evt.neg (by omega) ?_
        by_cases he : part s Z i = last
        · rw [if_pos he] at hs1
          exact Evt.pos (by rw [he]) (Evt.pos (by omega) (Evt.pos (by omega) (fin n (by omega))))
        · rw [if_neg he] at hs1
          exact Evt.neg (fun h => he (Byt.toList_inj h)) (Evt.pos (by omega) (Evt.pos (by omega) (fin (n + 1) (by omega))))
theorem specRank_ev (s : ByteArray) (a d : Int) : Evt (fun k => spec_RankOf.f k s a d) (ansRank s a d) := by
  unfold spec_RankOf.f ansRank
  have bad : Evt (fun k => spec_RankOf.j0 k s a d true) (([] : List Int), false) := Evt.step (fun k => spec_RankOf.j0.eq_2 _ _ _ _ k) (Evt.pos rfl (Evt.const _))
  by_cases hs : s.size ≤ 120
  · refine Evt.neg (by omega) ?_
    rw [in_f, in_f]
    by_cases ha2 : 1 ≤ a ∧ a ≤ 120
    · refine Evt.bsome (Evt.pos (by simpa using ha2) (Evt.bsome ?_))
      by_cases hd : 0 ≤ d ∧ d ≤ 1
      · rw [if_pos ⟨hs, ha2.1, ha2.2, hd.1, hd.2⟩]
        rw [decide_eq_true hd]
        have main : ∀ Z : Nat, Z ≤ 240 → Evt (fun k => spec_RankOf.j1 k s (Z : Int)) (ranks s Z, true) := by
          intro Z hZ
          refine Evt.step (fun k => spec_RankOf.j1.eq_2 _ _ k) (Evt.pos (by omega) (Evt.pos (by omega) (Evt.bind (spec_suffixes s (by omega)) ?_)))
          exact rank_loop s Z hs hZ (sufs s) (sufs_len s) (getD_sufs s) (rank s Z) (cnt s Z) (rank_end s (rank s Z)) (rank_at s Z) (cnt_succ s Z) (cnt_one s Z) (cnt_le s Z) s.size 0 [] _ (-1) _ (by omega) rfl (fun _ => rfl) (fun h => absurd h (by omega)) (by simp) (fun t ht => absurd ht (by omega))
        refine Evt.step (fun k => spec_RankOf.j0.eq_2 _ _ _ _ k) (Evt.neg (by simp) ?_)
        by_cases hd1 : d = 1
        · rw [if_pos hd1]
          refine Evt.pos hd1 ?_
          have := main (a * 2).toNat (by omega)
          rw [w64 (by omega) (by omega)]
          rw [show (((a * 2).toNat : Nat) : Int) = a * 2 by omega] at this
          exact this
        · rw [if_neg hd1]
          refine Evt.neg hd1 ?_
          have := main a.toNat (by omega)
          rw [show ((a.toNat : Nat) : Int) = a by omega] at this
          exact this
      · rw [if_neg (fun h => hd ⟨h.2.2.2.1, h.2.2.2.2⟩), decide_eq_false hd]
        exact bad
    · rw [if_neg (fun h => ha2 ⟨h.2.1, h.2.2.1⟩)]
      exact Evt.bsome (Evt.neg (by simpa using ha2) bad)
  · rw [if_neg (fun h => hs h.1)]
    exact Evt.pos (by omega) bad
theorem ansRank_len (s : ByteArray) (a d : Int) : (ansRank s a d).1.length ≤ 120 := by
  unfold ansRank
  split
  · rename_i h
    simp [ranks]
    omega
  · simp
end Go.Proofs.Ytppmigiknidjhaa.Rk
end

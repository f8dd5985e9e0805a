/- Ranks of the places of a text by so many bytes. No conditions. -/
import Derived.Test.YtppmigiknidjhaaSufP
import Derived.Test.YtppmigiknidjhaaCpt
namespace Go.Proofs.Ytppmigiknidjhaa.Rk
set_option linter.unusedVariables false
open Go.RowKit Go.Sort Go.Lib Go.Proofs.Ytppmigiknidjhaa.Pre Go.Proofs.Ytppmigiknidjhaa.Srt Go.Proofs.Ytppmigiknidjhaa.Suf

/-- The part of a text that begins at a place. -/
def part (s : ByteArray) (z : Nat) (i : Nat) : ByteArray := s.extract i (min s.size (i + z))
def partL (s : ByteArray) (z : Nat) (i : Nat) : List UInt8 := (part s z i).toList
def lsL (a b : List UInt8) : Bool := Op.bytesLess a b
theorem lsL_eq (a b : List UInt8) : lsL a b = decide (a < b) := Go.Proofs.bytesLess_eq _ _
theorem lsL_irrefl (a : List UInt8) : lsL a a = false := by
  rw [lsL_eq]
  exact decide_eq_false (List.lt_irrefl _)
theorem lsL_trans {a b c : List UInt8} (h1 : lsL a b = true) (h2 : lsL b c = true) : lsL a c = true := by
  rw [lsL_eq] at *
  exact decide_eq_true (List.lt_trans (of_decide_eq_true h1) (of_decide_eq_true h2))
theorem lsL_tri {a b : List UInt8} (h1 : lsL a b = false) (h2 : lsL b a = false) : a = b := by
  rw [lsL_eq] at *
  exact List.le_antisymm (List.not_lt.1 (of_decide_eq_false h2)) (List.not_lt.1 (of_decide_eq_false h1))
theorem lsL_asymm {a b : List UInt8} (h : lsL a b = true) : lsL b a = false := by
  cases h2 : lsL b a with
  | false => rfl
  | true => exact absurd (lsL_trans h h2) (by rw [lsL_irrefl]; decide)
theorem lt_take : ∀ (z : Nat) (a b : List UInt8), lsL a b = true → lsL (b.take z) (a.take z) = false
  | 0, a, b, _ => by
    rw [List.take_zero, List.take_zero]
    exact lsL_irrefl _
  | z + 1, a, [], h => by
    unfold lsL Op.bytesLess at h
    cases a <;> cases h
  | z + 1, [], y :: b, h => by
    unfold lsL
    simp [Op.bytesLess]
  | z + 1, x :: a, y :: b, h => by
    have ih := lt_take z a b
    unfold lsL at *
    simp only [List.take_succ_cons, Op.bytesLess] at *
    simp only [Bool.or_eq_true, decide_eq_true_eq, Bool.and_eq_true, beq_iff_eq] at h
    simp only [Bool.or_eq_false_iff, decide_eq_false_iff_not, Bool.and_eq_false_iff, beq_eq_false_iff_ne]
    rcases h with h | ⟨h1, h2⟩
    · refine ⟨fun h3 => ?_, .inl (fun h3 => ?_)⟩
      · exact absurd (UInt8.lt_trans h h3) (UInt8.lt_irrefl _)
      · subst h3
        exact absurd h (UInt8.lt_irrefl _)
    · subst h1
      exact ⟨UInt8.lt_irrefl _, .inr (ih h2)⟩
theorem part_eq (s : ByteArray) (z i : Nat) : partL s z i = ((suf s i).toList).take z := by
  unfold partL part suf
  rw [ByteArray.toList_eq, ByteArray.toList_eq, ByteArray.data_extract, ByteArray.data_extract, Array.toList_extract, Array.toList_extract, List.extract_eq_take_drop, List.extract_eq_take_drop, List.take_take]
  have hl : (s.data.toList.drop i).length = s.size - i := by
    rw [List.length_drop]
    rfl
  by_cases h : i + z ≤ s.size
  · rw [Nat.min_eq_right h, Nat.min_eq_left (by omega)]
    congr 1
    omega
  · rw [Nat.min_eq_left (by omega), Nat.min_eq_right (by omega)]
theorem partL_inj {s : ByteArray} {z i j : Nat} (h : partL s z i = partL s z j) : part s z i = part s z j := by
  unfold partL at h
  rw [ByteArray.toList_eq, ByteArray.toList_eq] at h
  exact WideShapes.bytes_inj h

/-- The parts, in the order of the endings. -/
def tops (s : ByteArray) (z : Nat) : List (List UInt8) := (sufs s).map (fun x => partL s z x.toNat)
theorem tops_len (s : ByteArray) (z : Nat) : (tops s z).length = s.size := by
  unfold tops
  rw [List.length_map, sufs_len]
theorem tops_sorted (s : ByteArray) (z : Nat) : (tops s z).Pairwise (fun a b => lsL b a = false) := by
  unfold tops
  rw [List.pairwise_map]
  refine (sufs_sorted s).imp ?_
  intro a b h
  rw [part_eq, part_eq]
  exact lt_take z _ _ h
/-- What stands in them, each once. -/
def cs (s : ByteArray) (z : Nat) : List (List UInt8) := compactUpTo (tops s z).toArray (tops s z).toArray.size
theorem tops_step (s : ByteArray) (z : Nat) : ∀ i, i + 1 < (tops s z).toArray.size → (tops s z).toArray[i]! ≠ (tops s z).toArray[i + 1]! → lsL (tops s z).toArray[i]! (tops s z).toArray[i + 1]! = true := by
  intro i hi hne
  have hi2 : i + 1 < (tops s z).length := by simpa using hi
  have h := (List.pairwise_iff_getElem.1 (tops_sorted s z)) i (i + 1) (by omega) hi2 (by omega)
  rw [getElem!_pos _ i (by simpa using (show i < (tops s z).length by omega)), getElem!_pos _ (i + 1) hi] at *
  simp only [List.getElem_toArray] at *
  cases h2 : lsL (tops s z)[i] (tops s z)[i + 1] with
  | true => rfl
  | false => exact absurd (lsL_tri h2 h) hne
theorem cs_sorted (s : ByteArray) (z : Nat) : (cs s z).Pairwise (fun a b => lsL a b = true) := Cpt.whole (lt := fun a b => lsL a b = true) (fun _ _ _ => lsL_trans) _ (tops_step s z)
/-- Where halving finds a part. -/
def rank (s : ByteArray) (z i : Nat) : Nat := bsGo (fun t => lsL ((cs s z).getD t (partL s z i)) (partL s z i)) (cs s z).length 0 (cs s z).length
/-- How many unlike parts the first ones are. -/
def cnt (s : ByteArray) (z m : Nat) : Nat := (compactUpTo (tops s z).toArray m).length
theorem rank_at (s : ByteArray) (z j : Nat) (hj : j < s.size) : 0 < cnt s z (j + 1) ∧ rank s z ((sufs s).getD j 0).toNat = cnt s z (j + 1) - 1 := by
  have hl := tops_len s z
  obtain ⟨h1, h2⟩ := Cpt.place (lt := fun a b => lsL a b = true) (fun _ _ _ => lsL_trans) (tops s z).toArray (tops_step s z) j (by simp; omega)
  refine ⟨h1, ?_⟩
  have e : (tops s z).toArray[j]! = partL s z ((sufs s).getD j 0).toNat := by
    rw [getElem!_pos _ j (by simp; omega)]
    have : j < (sufs s).length := by rw [sufs_len]; exact hj
    simp [tops, this]
  rw [e] at h2
  unfold rank
  refine Cpt.found (lt := fun a b => lsL a b = true) (fun a h => ?_) (fun _ _ _ => lsL_trans) (cs s z) (cs_sorted s z) _ _ _ h2 ?_ ?_
  · rw [lsL_irrefl] at h
    cases h
  · intro t ht
    rw [List.getD_eq_getElem?_getD, List.getElem?_eq_getElem ht]
    exact Iff.rfl
  · intro t ht
    rw [List.getD_eq_getElem?_getD, List.getElem?_eq_none ht]
    exact lsL_irrefl _
theorem cnt_succ (s : ByteArray) (z j : Nat) (hj : j + 1 < s.size) : cnt s z (j + 2) = if part s z ((sufs s).getD (j + 1) 0).toNat = part s z ((sufs s).getD j 0).toNat then cnt s z (j + 1) else cnt s z (j + 1) + 1 := by
  have hl := tops_len s z
  have e : ∀ i, i < s.size → (tops s z).toArray[i]! = partL s z ((sufs s).getD i 0).toNat := by
    intro i hi
    rw [getElem!_pos _ i (by simp; omega)]
    have : i < (sufs s).length := by rw [sufs_len]; exact hi
    simp [tops, this]
  unfold cnt
  rw [compactUpTo_succ]
  by_cases h : part s z ((sufs s).getD (j + 1) 0).toNat = part s z ((sufs s).getD j 0).toNat
  · rw [if_pos h, keeps_neg (by omega) (by rw [show j + 1 - 1 = j by omega, e _ hj, e _ (by omega)]; unfold partL; rw [h])]
    simp
  · rw [if_neg h, keeps_pos (by rw [show j + 1 - 1 = j by omega, e _ hj, e _ (by omega)]; exact fun h2 => h (partL_inj h2))]
    simp
theorem cnt_one (s : ByteArray) (z : Nat) : cnt s z 1 = 1 := by
  unfold cnt
  rw [compactUpTo_succ, keeps_lt_one _ 0 (by omega)]
  simp [compactUpTo]
theorem cnt_le (s : ByteArray) (z : Nat) : ∀ m, cnt s z m ≤ m := by
  intro m
  induction m with
  | zero => simp [cnt, compactUpTo]
  | succ m ih =>
    unfold cnt at *
    rw [compactUpTo_succ]
    split <;> simp <;> omega
def ranks (s : ByteArray) (z : Nat) : List Int := (List.range s.size).map (fun i => ((rank s z i : Nat) : Int))

/-- The parts, sorted, are the parts in the order of the endings. -/
def parts (s : ByteArray) (z : Nat) : List ByteArray := (List.range s.size).map (fun i => part s z i)
def sortedP (s : ByteArray) (z : Nat) : List ByteArray := (parts s z).mergeSort (fun x y => !(ltOf cmpS) y x)
theorem perm_le_eq {α : Type} {r : α → α → Prop} (has : ∀ a b, r a b → r b a → a = b) : ∀ {l1 l2 : List α}, l1.Perm l2 → l1.Pairwise r → l2.Pairwise r → l1 = l2
  | [], l2, h, _, _ => by
    have := h.length_eq
    exact (List.eq_nil_of_length_eq_zero this.symm).symm
  | a :: l1, [], h, _, _ => by
    have := h.length_eq
    cases this
  | a :: l1, b :: l2, h, h1, h2 => by
    rw [List.pairwise_cons] at h1 h2
    have hab : a = b := by
      have ha : a ∈ b :: l2 := h.mem_iff.1 List.mem_cons_self
      have hb : b ∈ a :: l1 := h.mem_iff.2 List.mem_cons_self
      rcases List.mem_cons.1 ha with e | ha
      · exact e
      · rcases List.mem_cons.1 hb with e | hb
        · exact e.symm
        · exact has a b (h1.1 b hb) (h2.1 a ha)
    subst hab
    rw [perm_le_eq has (List.Perm.cons_inv h) h1.2 h2.2]
theorem sortedP_tops (s : ByteArray) (z : Nat) : (sortedP s z).map (fun x => x.toList) = tops s z := by
  refine perm_le_eq (r := fun a b => lsL b a = false) (fun a b h1 h2 => lsL_tri h2 h1) ?_ ?_ (tops_sorted s z)
  · refine ((List.mergeSort_perm _ _).map _).trans ?_
    unfold parts tops
    rw [List.map_map]
    have h := (sufs_perm s).map (fun x => partL s z x.toNat)
    unfold upTo at h
    rw [List.map_map] at h
    refine List.Perm.trans (List.Perm.of_eq ?_) h.symm
    apply List.map_congr_left
    intro i _
    simp [partL]
  · rw [List.pairwise_map]
    have h1 : (sortedP s z).Pairwise (fun a b => (!(ltOf cmpS) b a) = true) := by
      unfold sortedP
      refine List.pairwise_mergeSort ?_ ?_ _
      · intro a b c h1 h2
        simp only [Bool.not_eq_true'] at *
        rw [show ltOf cmpS = fun x y => decide (cmpS x y < 0) from rfl] at *
        simp only [cmp_lt] at *
        exact ltS_ntrans h2 h1
      · intro a b
        simp only [Bool.or_eq_true, Bool.not_eq_true']
        rw [show ltOf cmpS = fun x y => decide (cmpS x y < 0) from rfl] at *
        simp only [cmp_lt] at *
        cases h : ltS b a with
        | false => exact .inl rfl
        | true => exact .inr (ltS_asymm h)
    refine h1.imp ?_
    intro a b h
    simp only [Bool.not_eq_true'] at h
    rw [show ltOf cmpS = fun x y => decide (cmpS x y < 0) from rfl] at h
    simp only [cmp_lt] at h
    exact h
end Go.Proofs.Ytppmigiknidjhaa.Rk

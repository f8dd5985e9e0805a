/- The reference's endings in order are the program's. No conditions. -/
import Derived.Test.YtppmigiknidjhaaInts
import Derived.Test.YtppmigiknidjhaaSufW
import Derived.Test.YtppmigiknidjhaaPQspecl12Suffixes
import Derived.Test.YtppmigiknidjhaaPQimplsuffixes
namespace Go.Proofs.Ytppmigiknidjhaa.Suf
set_option linter.unusedVariables false
open Go.RowKit Go.Sort Go.Proofs.Ytppmigiknidjhaa.PQ Go.Proofs.YtppmigiknidjhaaW.PrintWords Go.Proofs.YtppmigiknidjhaaW.PrintLast Go.Proofs.Ytppmigiknidjhaa.Pre Go.Proofs.Ytppmigiknidjhaa.Srt

theorem perm_sorted_eq {α : Type} {r : α → α → Prop} (has : ∀ a b, r a b → r b a → False) : ∀ {l1 l2 : List α}, l1.Perm l2 → l1.Pairwise r → l2.Pairwise r → l1 = l2
  | [], l2, h, _, _ => by
    have := h.length_eq
    exact (List.eq_nil_of_length_eq_zero this.symm).symm
  | a :: l1, [], h, _, _ => by
    have := h.length_eq
    cases this
  | a :: l1, b :: l2, h, h1, h2 => by
    rw [List.pairwise_cons] at h1 h2
    have hab : a = b := by
      have ha : a ∈ b :: l2 := h.mem_iff.1 List.mem_cons_self
      have hb : b ∈ a :: l1 := h.mem_iff.2 List.mem_cons_self
      rcases List.mem_cons.1 ha with e | ha
      · exact e
      · rcases List.mem_cons.1 hb with e | hb
        · exact e.symm
        · exact (has a b (h1.1 b hb) (h2.1 a ha)).elim
    subst hab
    rw [perm_sorted_eq has (List.Perm.cons_inv h) h1.2 h2.2]

/-- A place stands ahead of another one. -/
def ltI (s : ByteArray) (x y : Int) : Prop := ltS (suf s x.toNat) (suf s y.toNat) = true
theorem ltI_asymm (s : ByteArray) (a b : Int) (h1 : ltI s a b) (h2 : ltI s b a) : False := by
  have := ltS_asymm h1
  unfold ltI at h2
  rw [this] at h2
  cases h2
theorem ltI_tri (s : ByteArray) (x y : Nat) (hx : x ≤ s.size) (hy : y ≤ s.size) (h : ¬ ltI s x y) (hne : x ≠ y) : ltI s y x := by
  unfold ltI at *
  simp only [Int.toNat_natCast] at *
  cases h2 : ltS (suf s y) (suf s x) with
  | true => rfl
  | false =>
    have e := congrArg ByteArray.size (ltS_tri (Bool.eq_false_iff.2 h) h2)
    rw [suf_size _ _ hx, suf_size _ _ hy] at e
    omega
theorem ltI_trans (s : ByteArray) {a b c : Int} (h1 : ltI s a b) (h2 : ltI s b c) : ltI s a c := ltS_trans h1 h2

def upTo (n : Nat) : List Int := (List.range n).map (fun j : Nat => (j : Int))
theorem sufs_perm (s : ByteArray) : (sufs s).Perm (upTo s.size) := by
  have h := filled_all s
  unfold filled at h
  rw [Nat.sub_self, List.replicate_zero, List.append_nil] at h
  unfold upTo
  rw [h]
  exact (List.mergeSort_perm _ _).map _
theorem places_nodup (s : ByteArray) : (places s).Nodup := by
  unfold List.Nodup
  rw [List.pairwise_iff_getElem]
  intro i j hi hj hij e
  have := congrArg Fin.val e
  simp [places] at this
  omega
theorem takeWhile_all {α : Type} (p : α → Bool) : ∀ (l : List α), ∀ x ∈ l.takeWhile p, p x = true
  | [], x, h => by cases h
  | a :: l, x, h => by
    rw [List.takeWhile_cons] at h
    split at h
    · rename_i hp
      rcases List.mem_cons.1 h with rfl | h
      · exact hp
      · exact takeWhile_all p l x h
    · cases h
theorem sufs_sorted (s : ByteArray) : (sufs s).Pairwise (ltI s) := by
  unfold sufs
  rw [List.pairwise_map]
  have h1 : (sufP s).Pairwise (fun a b => (!(ltOf cfP) b a) = true) := by
    unfold sufP
    refine List.pairwise_mergeSort ?_ ?_ _
    · intro a b c h1 h2
      simp only [Bool.not_eq_true'] at *
      exact swoP.ntrans _ _ _ h2 h1
    · intro a b
      simp only [Bool.or_eq_true, Bool.not_eq_true']
      cases h : ltOf cfP b a with
      | false => exact .inl rfl
      | true =>
        right
        rw [ltP] at *
        exact ltS_asymm h
  have h2 : (sufP s).Nodup := (List.Perm.nodup_iff (List.mergeSort_perm _ _)).2 (places_nodup s)
  refine (List.Pairwise.and h1 h2).imp ?_
  rintro a b ⟨h3, h4⟩
  simp only [Bool.not_eq_true'] at h3
  rw [ltP] at h3
  unfold ltI
  rw [Int.toNat_natCast, Int.toNat_natCast]
  cases h5 : ltS (suf s a.1) (suf s b.1) with
  | true => rfl
  | false => exact absurd (totP a b (by rw [ltP]; exact h5) (by rw [ltP]; exact h3)) h4
theorem sufs_len (s : ByteArray) : (sufs s).length = s.size := by
  rw [(sufs_perm s).length_eq]
  simp [upTo]
theorem sufs_mem (s : ByteArray) : ∀ x ∈ sufs s, ∃ i : Nat, x = (i : Int) ∧ i < s.size := by
  intro x hx
  have := (sufs_perm s).mem_iff.1 hx
  unfold upTo at this
  obtain ⟨i, hi, rfl⟩ := List.mem_map.1 this
  exact ⟨i, rfl, by simpa using hi⟩

/-- The places from one on. -/
def fromOn (s : ByteArray) (i : Nat) : List Int := (List.range (s.size - i)).map (fun j : Nat => ((i + j : Nat) : Int))
theorem fromOn_cons (s : ByteArray) (i : Nat) (h : i < s.size) : fromOn s i = (i : Int) :: fromOn s (i + 1) := by
  unfold fromOn
  rw [show s.size - i = (s.size - (i + 1)) + 1 by omega, List.range_succ_eq_map, List.map_cons, List.map_map]
  congr 1
  apply List.map_congr_left
  intro j _
  show ((i + (j + 1) : Nat) : Int) = ((i + 1 + j : Nat) : Int)
  omega
theorem take_while_len {α : Type} (p : α → Bool) : ∀ l : List α, l.take (l.takeWhile p).length = l.takeWhile p ∧ l.drop (l.takeWhile p).length = l.dropWhile p
  | [] => by simp
  | a :: l => by
    have ih := take_while_len p l
    by_cases h : p a = true
    · simp [h, ih]
    · simp [h]
theorem spec_suf (s : ByteArray) (hs : s.size ≤ 1048576) : ∀ (n : Nat) (out : List Int), n ≤ s.size → out.Perm (fromOn s n) → out.Pairwise (ltI s) →
    Evt (fun k => spec_l12Suffixes.l0 k s out ((n : Int) - 1)) (sufs s) := by
  intro n
  induction n with
  | zero =>
    intro out hn hp ho
    refine Evt.step (fun k => spec_l12Suffixes.l0.eq_2 _ _ _ k) (Evt.neg (by omega) ((Evt.const _).eq ?_))
    refine perm_sorted_eq (ltI_asymm s) (hp.trans ?_) ho (sufs_sorted s)
    refine List.Perm.trans (List.Perm.of_eq ?_) (sufs_perm s).symm
    unfold fromOn upTo
    simp
  | succ n ih =>
    intro out hn hp ho
    have hlen : out.length = s.size - (n + 1) := by
      rw [hp.length_eq]
      simp [fromOn]
    have hmem : ∀ x ∈ out, ∃ i : Nat, x = (i : Int) ∧ n + 1 ≤ i ∧ i < s.size := by
      intro x hx
      have := hp.mem_iff.1 hx
      unfold fromOn at this
      obtain ⟨j, hj, rfl⟩ := List.mem_map.1 this
      have : j < s.size - (n + 1) := by simpa using hj
      exact ⟨n + 1 + j, rfl, by omega, by omega⟩
    have e0 : ((n + 1 : Nat) : Int) - 1 = (n : Int) := by omega
    rw [e0]
    let p : Int → Bool := fun x => ltS (suf s x.toNat) (suf s n)
    let out2 : List Int := out.takeWhile p ++ (n : Int) :: out.dropWhile p
    have hperm2 : out2.Perm (fromOn s n) := by
      rw [fromOn_cons s n (by omega)]
      refine List.Perm.trans List.perm_middle ?_
      rw [List.takeWhile_append_dropWhile]
      exact List.Perm.cons _ hp
    have hdrop : ∀ x ∈ out.dropWhile p, ltI s (n : Int) x := by
      cases hd : out.dropWhile p with
      | nil => intro x hx; cases hx
      | cons a r =>
        have hna : p a = false := by
          have := List.head?_dropWhile_not p out
          rw [hd] at this
          simpa using this
        have hsub : List.Sublist (a :: r) out := hd ▸ List.dropWhile_sublist p
        obtain ⟨i, rfl, hi1, hi2⟩ := hmem a (hsub.subset List.mem_cons_self)
        have h1 : ltI s (n : Int) (i : Int) := ltI_tri s i n (by omega) (by omega) (by
          unfold ltI
          rw [Int.toNat_natCast, Int.toNat_natCast]
          intro h
          have h2 : ltS (suf s ((i : Int)).toNat) (suf s n) = false := hna
          rw [Int.toNat_natCast, h] at h2
          cases h2) (by omega)
        intro x hx
        rcases List.mem_cons.1 hx with rfl | hx
        · exact h1
        · exact ltI_trans s h1 ((List.pairwise_cons.1 (ho.sublist hsub)).1 x hx)
    have hsort2 : out2.Pairwise (ltI s) := by
      refine List.pairwise_append.2 ⟨ho.sublist (List.takeWhile_sublist p), List.pairwise_cons.2 ⟨hdrop, ho.sublist (List.dropWhile_sublist p)⟩, ?_⟩
      intro a ha b hb
      have hpa : ltI s a (n : Int) := by
        have := takeWhile_all p out a ha
        unfold ltI
        rw [Int.toNat_natCast]
        exact this
      rcases List.mem_cons.1 hb with rfl | hb
      · exact hpa
      · exact ltI_trans s hpa (hdrop b hb)
    have hend := ih out2 (by omega) hperm2 hsort2
    have hbytes : ∀ i : Nat, i ≤ s.size → suf s i = s.extract ((i : Int)).toNat s.size := fun i _ => by rw [Int.toNat_natCast]; rfl
    -- the places behind it are passed over
    have key : ∀ (m j : Nat), j + m = out.length → (∀ t, t < j → ∃ h : t < out.length, p out[t] = true) → Evt (fun k => spec_l12Suffixes.l1 k s out (n : Int) (j : Int)) (sufs s) := by
      have fin : ∀ j : Nat, j = (out.takeWhile p).length → Evt (fun k => if (j : Int) ≤ (out.length : Int) then ((some (out.take ((j : Int)).toNat : List Int)).bind fun y102 => (if ([] : List Int).length + y102.length < 17592186044416 then ((some (([] : List Int) ++ y102 : List Int)).bind fun y106 => (if y106.length < 17592186044416 then ((some (y106 ++ [(n : Int)] : List Int)).bind fun y109 => ((some (out.drop ((j : Int)).toNat : List Int)).bind fun y112 => (if y109.length + y112.length < 17592186044416 then (spec_l12Suffixes.l0 k s (y109 ++ y112) (wrap64 ((n : Int) - 1))) else (none)))) else (none))) else (none))) else (none)) (sufs s) := by
        intro j hj
        have hjl : j ≤ out.length := by rw [hj]; exact (List.takeWhile_sublist p).length_le
        refine Evt.pos (by omega) (Evt.bsome ?_)
        rw [Int.toNat_natCast]
        obtain ⟨ht, hd⟩ := take_while_len p out
        rw [hj, ht, hd]
        have h1 : (out.takeWhile p).length ≤ out.length := (List.takeWhile_sublist p).length_le
        have h2 : (out.dropWhile p).length ≤ out.length := (List.dropWhile_sublist p).length_le
        refine Evt.pos (by simp; omega) (Evt.bsome (Evt.pos (by simp; omega) (Evt.bsome (Evt.bsome (Evt.pos (by simp; omega) ?_)))))
        rw [w64 (n := (n : Int) - 1) (by omega) (by omega)]
        refine Evt.congr (fun k => ?_) hend
        show spec_l12Suffixes.l0 k s ([] ++ out.takeWhile p ++ [(n : Int)] ++ out.dropWhile p) _ = spec_l12Suffixes.l0 k s out2 _
        congr 1
        simp [out2]
      have tw : ∀ j : Nat, j ≤ out.length → (∀ t, t < j → ∃ h : t < out.length, p out[t] = true) → (∀ h : j < out.length, p out[j] = false) → j = (out.takeWhile p).length := by
        intro j hj h1 h2
        have e : out = out.take j ++ out.drop j := (List.take_append_drop j out).symm
        have h3 : ∀ x ∈ out.take j, p x = true := by
          intro x hx
          obtain ⟨t, ht, rfl⟩ := List.mem_iff_getElem.1 hx
          have ht2 : t < j := by
            have := ht
            rw [List.length_take] at this
            omega
          obtain ⟨h, hp⟩ := h1 t ht2
          rw [List.getElem_take]
          exact hp
        have h4 : (out.takeWhile p) = out.take j := by
          conv => lhs; rw [e]
          rw [List.takeWhile_append_of_pos h3]
          have h5 : (out.drop j).takeWhile p = [] := by
            by_cases hlt : j < out.length
            · rw [List.drop_eq_getElem_cons hlt, List.takeWhile_cons, if_neg (by rw [h2 hlt]; decide)]
            · rw [List.drop_eq_nil_of_le (by omega)]
              rfl
          rw [h5, List.append_nil]
        rw [h4, List.length_take]
        omega
      intro m
      induction m with
      | zero =>
        intro j hj hpre
        refine Evt.step (fun k => spec_l12Suffixes.l1.eq_2 _ _ _ _ k) (Evt.neg (by omega) (Evt.pos (by omega) (fin j (tw j (by omega) hpre (fun h => by omega)))))
      | succ m ih2 =>
        intro j hj hpre
        have hlt : j < out.length := by omega
        obtain ⟨i, hi, hi1, hi2⟩ := hmem out[j] (List.getElem_mem hlt)
        refine Evt.step (fun k => spec_l12Suffixes.l1.eq_2 _ _ _ _ k) (Evt.pos (by omega) (Evt.pos (by omega) ?_))
        rw [Ints.rd_get out j hlt, hi]
        refine Evt.pos (by omega) (Evt.pos (by omega) (Evt.pos (by omega) (Evt.pos (by omega) ?_)))
        have ep : Op.bytesLess ((s.extract ((i : Int)).toNat s.size).toList) ((s.extract ((n : Int)).toNat s.size).toList) = p out[j] := by
          rw [hi]
          show _ = ltS (suf s ((i : Int)).toNat) (suf s n)
          rw [Int.toNat_natCast, Int.toNat_natCast]
          rfl
        rw [ep]
        by_cases hpj : p out[j] = true
        · refine Evt.pos hpj ?_
          rw [w64 (n := (j : Int) + 1) (by omega) (by omega)]
          refine ih2 (j + 1) (by omega) (fun t ht => ?_)
          by_cases htj : t = j
          · subst htj
            exact ⟨hlt, hpj⟩
          · exact hpre t (by omega)
        · exact Evt.neg hpj (fin j (tw j (by omega) hpre (fun h => by simpa using hpj)))
    refine Evt.step (fun k => spec_l12Suffixes.l0.eq_2 _ _ _ k) (Evt.pos (by omega) ?_)
    exact key out.length 0 (by omega) (fun t ht => by omega)
theorem spec_suffixes (s : ByteArray) (hs : s.size ≤ 1048576) : Evt (fun k => spec_l12Suffixes.f k s) (sufs s) := by
  unfold spec_l12Suffixes.f
  rw [w64 (by omega) (by omega)]
  refine spec_suf s hs s.size [] (by omega) ?_ List.Pairwise.nil
  unfold fromOn
  simp
theorem impl_suffixes_eq (s : ByteArray) (hs : s.size ≤ 1048576) : impl_suffixes.f s = some (sufs s) := by
  unfold impl_suffixes.f
  rw [if_pos hs]
end Go.Proofs.Ytppmigiknidjhaa.Suf

/- Several texts in one: what the claim's last text rests on. No conditions. -/
import Derived.Test.YtppmigiknidjhaaMDf20
import Derived.Test.YtppmigiknidjhaaMDf14
import Derived.Test.YtppmigiknidjhaaMDf19
import Derived.Test.YtppmigiknidjhaaMDf13
import Derived.Test.YtppmigiknidjhaaMDf10
import Derived.Deep.QuietTactic
import Derived.BigQuiet
import Derived.Test.YtppmigiknidjhaaMDf5
section
/- The reference's FindIn is the program's. No conditions. -/
namespace Go.Proofs.Ytppmigiknidjhaa.Fi
set_option linter.unusedVariables false
open Go.RowKit Go.Sort Go.Lib Go.Proofs.Ytppmigiknidjhaa.PQ Go.Proofs.YtppmigiknidjhaaW.PrintWords Go.Proofs.YtppmigiknidjhaaW.PrintLast Go.Proofs.Ytppmigiknidjhaa.Pre Go.Proofs.Ytppmigiknidjhaa.Srt Go.Proofs.Ytppmigiknidjhaa.Suf

/-- A number put into its place. -/
def insI (v : Int) (out : List Int) : List Int := out.takeWhile (fun x => decide (x < v)) ++ v :: out.dropWhile (fun x => decide (x < v))
theorem insI_perm (v : Int) (out : List Int) : (insI v out).Perm (out ++ [v]) := by
  unfold insI
  refine List.Perm.trans List.perm_middle ?_
  rw [List.takeWhile_append_dropWhile]
  exact List.perm_append_comm (l₁ := [v])
theorem insI_sorted (v : Int) (out : List Int) (h : out.Pairwise (fun a b => a ≤ b)) : (insI v out).Pairwise (fun a b => a ≤ b) := by
  unfold insI
  have hd : ∀ x ∈ out.dropWhile (fun x => decide (x < v)), v ≤ x := by
    cases e : out.dropWhile (fun x => decide (x < v)) with
    | nil => intro x hx; cases hx
    | cons a r =>
      have h1 := List.head?_dropWhile_not (fun x => decide (x < v)) out
      rw [e] at h1
      have h2 : ¬ a < v := by simpa using h1
      have hs : (a :: r).Pairwise (fun a b => a ≤ b) := e ▸ h.sublist (List.dropWhile_sublist _)
      intro x hx
      rcases List.mem_cons.1 hx with rfl | hx
      · omega
      · have := (List.pairwise_cons.1 hs).1 x hx
        omega
  refine List.pairwise_append.2 ⟨h.sublist (List.takeWhile_sublist _), List.pairwise_cons.2 ⟨hd, h.sublist (List.dropWhile_sublist _)⟩, ?_⟩
  intro a ha b hb
  have h1 : a < v := by simpa using takeWhile_all _ out a ha
  rcases List.mem_cons.1 hb with rfl | hb
  · omega
  · have := hd b hb
    omega
theorem srt_sorted (l : List Int) : (srt l).Pairwise (fun a b => a ≤ b) := by
  unfold srt
  have := List.pairwise_mergeSort (le := fun (x y : Int) => decide (x ≤ y)) (fun a b c h1 h2 => by simp at *; omega) (fun a b => by simp; omega) l
  exact this.imp (fun h => by simpa using h)
theorem ins_loop (v : Int) (out M : List Int) (c len i : Int) (R : List Int × Int × Bool) (ho : out.length ≤ 1048576) (hi : 0 ≤ i ∧ i ≤ 1048576) (hR : Evt (fun k => spec_FindIn.l2 k c (insI v out) M len (i + 1)) R) :
    ∀ (m j : Nat), j + m = out.length → (∀ t, t < j → ∃ h : t < out.length, out[t] < v) → Evt (fun k => spec_FindIn.l3 k c out v (j : Int) M len i) R := by
  have fin : ∀ j : Nat, j = (out.takeWhile (fun x => decide (x < v))).length → Evt (fun k => if (j : Int) ≤ (out.length : Int) then ((some (out.take ((j : Int)).toNat : List Int)).bind fun y449 => (if ([] : List Int).length + y449.length < 17592186044416 then ((some (([] : List Int) ++ y449 : List Int)).bind fun y453 => (if y453.length < 17592186044416 then ((some (y453 ++ [v] : List Int)).bind fun y456 => ((some (out.drop ((j : Int)).toNat : List Int)).bind fun y459 => (if y456.length + y459.length < 17592186044416 then (spec_FindIn.l2 k c (y456 ++ y459) M len (wrap64 (i + 1))) else (none)))) else (none))) else (none))) else (none)) R := by
    intro j hj
    have hjl : j ≤ out.length := by rw [hj]; exact (List.takeWhile_sublist _).length_le
    refine Evt.pos (by omega) (Evt.bsome ?_)
    rw [Int.toNat_natCast]
    obtain ⟨ht, hd⟩ := take_while_len (fun x => decide (x < v)) out
    rw [hj, ht, hd]
    have h1 : (out.takeWhile (fun x => decide (x < v))).length ≤ out.length := (List.takeWhile_sublist _).length_le
    have h2 : (out.dropWhile (fun x => decide (x < v))).length ≤ out.length := (List.dropWhile_sublist _).length_le
    refine Evt.pos (by simp; omega) (Evt.bsome (Evt.pos (by simp; omega) (Evt.bsome (Evt.bsome (Evt.pos (by simp; omega) ?_)))))
    rw [w64 (n := i + 1) (by omega) (by omega)]
    refine Evt.congr (fun k => ?_) hR
    congr 1
    simp [insI]
  have tw : ∀ j : Nat, j ≤ out.length → (∀ t, t < j → ∃ h : t < out.length, out[t] < v) → (∀ h : j < out.length, ¬ out[j] < v) → j = (out.takeWhile (fun x => decide (x < v))).length := by
    intro j hj h1 h2
    have e : out = out.take j ++ out.drop j := (List.take_append_drop j out).symm
    have h3 : ∀ x ∈ out.take j, decide (x < v) = true := by
      intro x hx
      obtain ⟨t, ht, rfl⟩ := List.mem_iff_getElem.1 hx
      have ht2 : t < j := by
        have := ht
        rw [List.length_take] at this
        omega
      obtain ⟨h, hp⟩ := h1 t ht2
      rw [List.getElem_take]
      exact decide_eq_true hp
    have h4 : (out.takeWhile (fun x => decide (x < v))) = out.take j := by
      conv => lhs; rw [e]
      rw [List.takeWhile_append_of_pos h3]
      have h5 : (out.drop j).takeWhile (fun x => decide (x < v)) = [] := by
        by_cases hlt : j < out.length
        · rw [List.drop_eq_getElem_cons hlt, List.takeWhile_cons, if_neg (by simpa using h2 hlt)]
        · rw [List.drop_eq_nil_of_le (by omega)]
          rfl
      rw [h5, List.append_nil]
    rw [h4, List.length_take]
    omega
  intro m
  induction m with
  | zero =>
    intro j hj hpre
    refine Evt.step (fun k => spec_FindIn.l3.eq_2 _ _ _ _ _ _ _ k) (Evt.neg (by omega) (Evt.pos (by omega) (fin j (tw j (by omega) hpre (fun h => by omega)))))
  | succ m ih2 =>
    intro j hj hpre
    have hlt : j < out.length := by omega
    refine Evt.step (fun k => spec_FindIn.l3.eq_2 _ _ _ _ _ _ _ k) (Evt.pos (by omega) (Evt.pos (by omega) ?_))
    rw [Ints.rd_get out j hlt]
    by_cases hpj : out[j] < v
    · refine Evt.pos hpj ?_
      rw [w64 (n := (j : Int) + 1) (by omega) (by omega)]
      refine ih2 (j + 1) (by omega) (fun t ht => ?_)
      by_cases htj : t = j
      · subst htj
        exact ⟨hlt, hpj⟩
      · exact hpre t (by omega)
    · exact Evt.neg hpj (fin j (tw j (by omega) hpre (fun h => hpj)))
theorem sort_loop (M : List Int) (c : Int) (hM : M.length ≤ 1048576) : ∀ (m i : Nat) (out : List Int), i + m = M.length → out.Perm (M.take i) → out.Pairwise (fun a b => a ≤ b) →
    Evt (fun k => spec_FindIn.l2 k c out M (M.length : Int) (i : Int)) (srt M, c, true) := by
  intro m
  induction m with
  | zero =>
    intro i out hi hp hs
    refine Evt.step (fun k => spec_FindIn.l2.eq_2 _ _ _ _ _ k) (Evt.neg (by omega) ((Evt.const _).eq ?_))
    rw [List.take_of_length_le (by omega)] at hp
    rw [Rk.perm_le_eq (r := fun a b => a ≤ b) (fun a b h1 h2 => by omega) (hp.trans (List.mergeSort_perm M (fun x y => decide (x ≤ y))).symm) hs (srt_sorted M)]
    rfl
  | succ m ih =>
    intro i out hi hp hs
    have hlt : i < M.length := by omega
    have hol : out.length = i := by
      rw [hp.length_eq, List.length_take]
      omega
    refine Evt.step (fun k => spec_FindIn.l2.eq_2 _ _ _ _ _ k) (Evt.pos (by omega) (Evt.pos (by omega) (Evt.pos (by omega) ?_)))
    rw [Ints.rd_get M i hlt]
    refine ins_loop M[i] out M c _ (i : Int) _ (by omega) (by omega) ?_ out.length 0 (by omega) (fun t ht => by omega)
    have h := ih (i + 1) (insI M[i] out) (by omega) ?_ (insI_sorted _ _ hs)
    · rw [show ((i + 1 : Nat) : Int) = (i : Int) + 1 by omega] at h
      exact h
    · refine (insI_perm _ _).trans ?_
      rw [List.take_succ_eq_append_getElem hlt]
      exact hp.append_right _

theorem cut_cases (t p : ByteArray) : (t.size > p.size ∧ cut t p = t.extract 0 p.size) ∨ (¬ t.size > p.size ∧ cut t p = t) := by
  unfold cut
  by_cases h : t.size > p.size
  · exact .inl ⟨h, if_pos h⟩
  · exact .inr ⟨h, if_neg h⟩
theorem mid_f (lo hi : Nat) (h : lo + hi ≤ 1048576) : wrap64 (Int.tdiv (wrap64 ((lo : Int) + (hi : Int))) 2) = (((lo + hi) / 2 : Nat) : Int) := by
  rw [w64 (n := (lo : Int) + (hi : Int)) (by omega) (by omega), Int.tdiv_eq_ediv_of_nonneg (by omega), w64 (by omega) (by omega)]
  omega
theorem rd_nat {s : ByteArray} {l : List Int} (hw : Within s l) (m : Nat) (hm : m < l.length) : ∃ x : Nat, rd l (m : Int) = (x : Int) ∧ x ≤ s.size := by
  obtain ⟨a1, a2, _⟩ := within_get hw m hm
  exact ⟨(rd l (m : Int)).toNat, by omega, by omega⟩
theorem loop0 (s p : ByteArray) (l : List Int) (hw : Within s l) (hl : l.length ≤ 120) (R : List Int × Int × Bool) (F : Nat × Nat) (hF : F.1 ≤ l.length ∧ F.2 ≤ l.length)
    (hR : Evt (fun k => spec_FindIn.l1 k s l p ((F.2 : Nat) : Int) ((F.1 : Nat) : Int) ((F.1 : Nat) : Int) (l.length : Int)) R) :
    ∀ (n lo hi c : Nat), hi - lo ≤ n → lo ≤ hi → hi ≤ l.length → c + (hi - lo) ≤ l.length → hv (less2 s p l) (hi - lo) lo hi c = F → Evt (fun k => spec_FindIn.l0 k s l p (c : Int) (lo : Int) (hi : Int)) R := by
  intro n
  induction n with
  | zero =>
    intro lo hi c hn h1 h2 h3 h4
    rw [hv_done _ _ _ _ _ (by omega)] at h4
    subst h4
    exact Evt.step (fun k => spec_FindIn.l0.eq_2 _ _ _ _ _ _ k) (Evt.neg (by omega) hR)
  | succ n ih =>
    intro lo hi c hn h1 h2 h3 h4
    by_cases hlt : lo < hi
    · obtain ⟨x, hx, hxs⟩ := rd_nat hw ((lo + hi) / 2) (by omega)
      have hst := hv_step (less2 s p l) lo hi c hlt
      rw [h4] at hst
      have hless : less2 s p l ((lo + hi) / 2) = ltS (suf s x) p := by unfold less2; rw [hx, Int.toNat_natCast]
      refine Evt.step (fun k => spec_FindIn.l0.eq_2 _ _ _ _ _ _ k) (Evt.pos (by omega) ?_)
      rw [mid_f lo hi (by omega)]
      refine Evt.pos (by omega) (Evt.pos (by omega) ?_)
      rw [hx]
      clear hx
      refine Evt.pos (by omega) (Evt.pos (by omega) ?_)
      rw [w64 (n := (c : Int) + 1) (by omega) (by omega), show (c : Int) + 1 = ((c + 1 : Nat) : Int) by omega, Int.toNat_natCast, show s.extract x s.size = suf s x from rfl]
      by_cases hb : ltS (suf s x) p = true
      · rw [if_pos (by rw [hless]; exact hb)] at hst
        refine Evt.pos hb ?_
        rw [w64 (n := (((lo + hi) / 2 : Nat) : Int) + 1) (by omega) (by omega), show (((lo + hi) / 2 : Nat) : Int) + 1 = (((lo + hi) / 2 + 1 : Nat) : Int) by omega]
        exact ih _ _ _ (by omega) (by omega) h2 (by omega) hst.symm
      · rw [if_neg (by rw [hless]; exact hb)] at hst
        refine Evt.neg hb ?_
        exact ih _ _ _ (by omega) (by omega) (by omega) (by omega) hst.symm
    · rw [hv_done _ _ _ _ _ hlt] at h4
      subst h4
      exact Evt.step (fun k => spec_FindIn.l0.eq_2 _ _ _ _ _ _ k) (Evt.neg (by omega) hR)
theorem loop1 (s p : ByteArray) (l : List Int) (hw : Within s l) (hl : l.length ≤ 120) (hp : p.size ≤ 120) (R : List Int × Int × Bool) (fr0 : Nat) (F : Nat × Nat) (hF : F.1 ≤ l.length ∧ fr0 ≤ F.1)
    (hR : Evt (fun k => spec_FindIn.l2 k ((F.2 : Nat) : Int) [] ((l.take F.1).drop fr0) (((l.take F.1).drop fr0).length : Int) 0) R) :
    ∀ (n lo hi c : Nat), hi - lo ≤ n → lo ≤ hi → hi ≤ l.length → c ≤ 1000 - (hi - lo) → hi - lo ≤ 500 → hv (less3 s p l) (hi - lo) lo hi c = F → Evt (fun k => spec_FindIn.l1 k s l p (c : Int) (lo : Int) (fr0 : Int) (hi : Int)) R := by
  intro n
  have hend : ∀ lo hi c : Nat, ¬ lo < hi → hv (less3 s p l) (hi - lo) lo hi c = F → Evt (fun k => spec_FindIn.l1 k s l p (c : Int) (lo : Int) (fr0 : Int) (hi : Int)) R := by
    intro lo hi c hlt h4
    rw [hv_done _ _ _ _ _ hlt] at h4
    subst h4
    refine Evt.step (fun k => spec_FindIn.l1.eq_2 _ _ _ _ _ _ _ k) (Evt.neg (by omega) (Evt.pos (by omega) (Evt.pos (by have := hF.2; simp only at this; omega) (Evt.pos (by have := hF.1; simp only at this; omega) ?_))))
    rw [Int.toNat_natCast, Int.toNat_natCast]
    exact hR
  induction n with
  | zero =>
    intro lo hi c hn h1 h2 h3 h5 h4
    exact hend lo hi c (by omega) h4
  | succ n ih =>
    intro lo hi c hn h1 h2 h3 h5 h4
    by_cases hlt : lo < hi
    · obtain ⟨x, hx, hxs⟩ := rd_nat hw ((lo + hi) / 2) (by omega)
      have hst := hv_step (less3 s p l) lo hi c hlt
      rw [h4] at hst
      have hless : less3 s p l ((lo + hi) / 2) = !(ltS p (cut (suf s x) p)) := by unfold less3; rw [hx, Int.toNat_natCast]
      refine Evt.step (fun k => spec_FindIn.l1.eq_2 _ _ _ _ _ _ _ k) (Evt.pos (by omega) ?_)
      rw [mid_f lo hi (by omega)]
      refine Evt.pos (by omega) (Evt.pos (by omega) ?_)
      rw [hx]
      clear hx
      refine Evt.pos (by omega) (Evt.pos (by omega) ?_)
      rw [w64 (n := (c : Int) + 1) (by omega) (by omega), show (c : Int) + 1 = ((c + 1 : Nat) : Int) by omega, Int.toNat_natCast, show s.extract x s.size = suf s x from rfl]
      rw [w64 (n := (((lo + hi) / 2 : Nat) : Int) + 1) (by omega) (by omega), show (((lo + hi) / 2 : Nat) : Int) + 1 = (((lo + hi) / 2 + 1 : Nat) : Int) by omega]
      have yes : ltS p (cut (suf s x) p) = true → Evt (fun k => spec_FindIn.l1 k s l p ((c + 1 : Nat) : Int) (lo : Int) (fr0 : Int) (((lo + hi) / 2 : Nat) : Int)) R := by
        intro hb
        rw [if_neg (by rw [hless, hb]; decide)] at hst
        exact ih _ _ _ (by omega) (by omega) (by omega) (by omega) (by omega) hst.symm
      have no : ¬ ltS p (cut (suf s x) p) = true → Evt (fun k => spec_FindIn.l1 k s l p ((c + 1 : Nat) : Int) (((lo + hi) / 2 + 1 : Nat) : Int) (fr0 : Int) (hi : Int)) R := by
        intro hb
        rw [if_pos (by rw [hless, Bool.eq_false_iff.2 hb]; rfl)] at hst
        exact ih _ _ _ (by omega) (by omega) (by omega) (by omega) (by omega) hst.symm
      rcases cut_cases (suf s x) p with ⟨hc1, hc2⟩ | ⟨hc1, hc2⟩
      · rw [hc2] at yes no
        refine Evt.pos (by omega) (Evt.pos (by omega) (Evt.pos (by omega) ?_))
        by_cases hb : ltS p ((suf s x).extract 0 p.size) = true
        · exact Evt.pos hb (yes hb)
        · exact Evt.neg hb (no hb)
      · rw [hc2] at yes no
        refine Evt.neg (by omega) ?_
        by_cases hb : ltS p (suf s x) = true
        · exact Evt.pos hb (yes hb)
        · exact Evt.neg hb (no hb)
    · exact hend lo hi c hlt h4
theorem specFind_ev (s : ByteArray) (l : List Int) (p : ByteArray) (hll : l.length ≤ 1048576) : Evt (fun k => spec_FindIn.f k s l p) (ansFind s l p) := by
  have bad : Evt (fun k => spec_FindIn.j0 k s l p true) (([] : List Int), (0 : Int), false) := Evt.step (fun k => spec_FindIn.j0.eq_2 _ _ _ _ k) (Evt.pos rfl (Evt.const _))
  unfold spec_FindIn.f ansFind
  refine Evt.bind (specIs_ev s l hll) ?_
  rw [Rk.in_f]
  by_cases h1 : s.size ≤ 120 ∧ l = sufs s
  · refine Evt.pos (by simpa using h1) (Evt.bsome ?_)
    have hw : Within s l := by rw [h1.2]; exact sufs_within s
    have hl : l.length ≤ 120 := by rw [h1.2, sufs_len]; exact h1.1
    by_cases h2 : 1 ≤ p.size ∧ p.size ≤ 120
    · rw [if_pos (by unfold okF; exact decide_eq_true ⟨h1, h2⟩)]
      rw [decide_eq_true (show 1 ≤ (p.size : Int) ∧ (p.size : Int) ≤ 120 by omega)]
      have hfb := hv_bound (less2 s p l) (l.length - 0) 0 l.length 0 (Nat.zero_le _)
      have hfb2 : (fr s p l).1 ≤ l.length ∧ (fr s p l).2 ≤ l.length := ⟨hfb.2.1, by have := hfb.2.2; unfold fr; omega⟩
      have htb := hv_bound (less3 s p l) (l.length - (fr s p l).1) (fr s p l).1 l.length (fr s p l).2 hfb2.1
      refine Evt.step (fun k => spec_FindIn.j0.eq_2 _ _ _ _ k) (Evt.neg (by simp) ?_)
      refine loop0 s p l hw hl _ (fr s p l) hfb2 ?_ l.length 0 l.length 0 (by omega) (by omega) (Nat.le_refl _) (by omega) rfl
      refine loop1 s p l hw hl h2.2 _ (fr s p l).1 (tt s p l) ⟨htb.2.1, htb.1⟩ ?_ l.length (fr s p l).1 l.length (fr s p l).2 (by omega) hfb2.1 (Nat.le_refl _) (by omega) (by omega) rfl
      exact sort_loop (mid s p l) _ (by unfold mid; simp; omega) (mid s p l).length 0 [] (by omega) (by simp) List.Pairwise.nil
    · rw [if_neg (by unfold okF; simp; omega), decide_eq_false (show ¬ (1 ≤ (p.size : Int) ∧ (p.size : Int) ≤ 120) by omega)]
      exact bad
  · rw [if_neg (by unfold okF; rw [decide_eq_true_eq]; exact fun h => h1 h.1)]
    exact Evt.neg (by simpa using h1) bad
theorem ansFind_len (s : ByteArray) (l : List Int) (p : ByteArray) : (ansFind s l p).1.length ≤ 120 := by
  unfold ansFind
  by_cases h : okF s l p = true
  · rw [if_pos h]
    have h2 := of_decide_eq_true h
    have hl : l.length ≤ 120 := by rw [h2.1.2, sufs_len]; exact h2.1.1
    show (srt (mid s p l)).length ≤ 120
    unfold srt mid
    rw [List.length_mergeSort]
    simp
    omega
  · rw [if_neg h]
    simp
end Go.Proofs.Ytppmigiknidjhaa.Fi
end

section
/- The law FnFound, walked: it returns true. No conditions. -/
namespace Go.Proofs.Ytppmigiknidjhaa.LwFo
set_option linter.unusedVariables false
set_option linter.unusedSimpArgs false
open Go.RowKit Go.Proofs.Ytppmigiknidjhaa.PQ Go.Proofs.YtppmigiknidjhaaW.PrintWords Go.Proofs.YtppmigiknidjhaaW.PrintLast Go.Proofs.YtppmigiknidjhaaW.PrintMore Go.Proofs.Ytppmigiknidjhaa.Pre

/-- How often a number can be halved. -/
def hs (n : Nat) : Nat := if n = 0 then 0 else hs (n / 2) + 1
termination_by n
decreasing_by omega
theorem hs_zero : hs 0 = 0 := by
  unfold hs
  rfl
theorem hs_pos (n : Nat) (h : 0 < n) : hs n = hs (n / 2) + 1 := by
  conv => lhs; unfold hs
  rw [if_neg (by omega)]
theorem hs_le : ∀ (n m : Nat), n ≤ m → hs n ≤ hs m := by
  intro n
  induction n using Nat.strongRecOn with
  | ind n ih =>
    intro m h
    by_cases hn : n = 0
    · subst hn
      rw [hs_zero]
      omega
    · rw [hs_pos n (by omega), hs_pos m (by omega)]
      have := ih (n / 2) (by omega) (m / 2) (by omega)
      omega
theorem hs_bound (n : Nat) : hs n ≤ n := by
  induction n using Nat.strongRecOn with
  | ind n ih =>
    by_cases hn : n = 0
    · subst hn
      rw [hs_zero]
      omega
    · rw [hs_pos n (by omega)]
      have := ih (n / 2) (by omega)
      omega

set_option maxRecDepth 100000 in
theorem big (A0 : Option Addr) (c0 : Nat) (l0 : List Int) (w : World) (hl : ¬ l0.length ≤ 1048576) :
    Calls Try.prog 13 #[.slice A0 l0.length c0] w fun e w' => e = .returned (.bool true) ∧ Below w.heap.size w w' := by
  have hl1 : (1048576 : Int) < (l0.length : Int) := by omega
  go_enter Try.func13, Try.ntmps13
  go_wp2
  go_ret
  exact ⟨rfl, Below.refl _ _⟩
set_option maxHeartbeats 2000000 in
set_option maxRecDepth 100000 in
theorem none_ (k1 k3 k6 : Nat) (A0 : Option Addr) (c0 : Nat) (l0 : List Int) (w : World) (hr0 : Kd.C (Kd.int .u8) w A0 l0.length l0) (hc0 : l0.length ≤ c0) (hl : l0.length ≤ 1048576) (s p : ByteArray) (l R : List Int) (cc : Int) (b : Bool) (h1 : spec_DrawFindIn.f k1 l0 = some (s, l, p)) (h2 : impl_FindIn.f s l p = some (R, cc, b)) (h3 : spec_FindIn.f k3 s l p = some (R, cc, b)) (h6 : laws_sameInts.f k6 R R = some true) (hb : b = false) (hL : R = []) :
    Calls Try.prog 13 #[.slice A0 l0.length c0] w fun e w' => e = .returned (.bool true) ∧ Below w.heap.size w w' := by
  have HR := Aside0.mk hr0
  have HC := Aside0.mk hc0
  have H1 := Aside0.mk h1
  have H2 := Aside0.mk h2
  have H3 := Aside0.mk h3
  have H6 := Aside0.mk h6
  have hl1 : (l0.length : Int) ≤ 1048576 := by omega
  have HLl := Aside0.mk (show R.length = 0 by rw [hL]; rfl)
  subst hb
  clear hr0 hc0 h1 h2 h3 h6 hL hl
  go_enter Try.func13, Try.ntmps13
  go_upto_region 8 with (first | (go_at_call 36; go_loud ((with_reducible refine (spec_DrawFindIn.calls k1 A0 c0 l0 s l p _ HR.out HC.out H1.out).mono ?_); rintro e w1 ⟨v1, rfl, ho, hb⟩; obtain ⟨A4, c4, e4⟩ := Kd.R_slice ho; subst e4; have HL1 := Aside0.mk ho; have HB1 := Aside0.mk hb; clear ho hb)) | (go_at_call 35; go_loud ((with_reducible refine (impl_FindIn.calls s A4 c4 l p R cc _ _ (Kd.R_reads' HL1.out).2.2 (Kd.R_reads' HL1.out).2.1 H2.out).mono ?_); rintro e w2 ⟨v2, rfl, ho, hb⟩; obtain ⟨A6, c6, e6⟩ := Kd.R_slice ho; subst e6; have HR2 := Aside0.mk ho; have HL2 := Aside0.mk (Kd.R_below HL1.out hb); have HB2 := Aside0.mk (below_step HB1.out hb); clear ho hb)) | (go_at_call 34; go_loud ((with_reducible refine (spec_FindIn.calls k3 s A4 c4 l p R cc _ _ (Kd.R_reads' HL2.out).2.2 (Kd.R_reads' HL2.out).2.1 H3.out).mono ?_); rintro e w3 ⟨v3, rfl, ho, hb⟩; obtain ⟨A9, c9, e9⟩ := Kd.R_slice ho; subst e9; have HS3 := Aside0.mk ho; have HR3 := Aside0.mk (Kd.R_below HR2.out hb); have HB3 := Aside0.mk (below_step HB2.out hb); clear ho hb)) | (go_at_call 32; go_loud ((with_reducible refine (laws_sameInts.calls k6 A6 c6 R A9 c9 R true _ (Kd.R_reads' HR3.out).2.2 (Kd.R_reads' HR3.out).2.1 (Kd.R_reads' HS3.out).2.2 (Kd.R_reads' HS3.out).2.1 H6.out).mono ?_); rintro e w6 ⟨rfl, ⟨nd, rfl⟩⟩)))
  have hLl := HLl.out
  go_wp2
  go_ret
  exact ⟨rfl, pw_below_drewN HB3.out _⟩

set_option maxHeartbeats 4000000 in
set_option maxRecDepth 100000 in
theorem some_ (k1 k3 k6 : Nat) (A0 : Option Addr) (c0 : Nat) (l0 : List Int) (w : World) (hr0 : Kd.C (Kd.int .u8) w A0 l0.length l0) (hc0 : l0.length ≤ c0) (hl : l0.length ≤ 1048576) (s p : ByteArray) (l R : List Int) (cc : Int) (h1 : spec_DrawFindIn.f k1 l0 = some (s, l, p)) (h2 : impl_FindIn.f s l p = some (R, cc, true)) (h3 : spec_FindIn.f k3 s l p = some (R, cc, true)) (h6 : laws_sameInts.f k6 R R = some true) (hs1 : s.size ≤ 120) (hp1 : 1 ≤ p.size) (hp2 : p.size ≤ 120) (hRl : R.length ≤ 120) (kk : Nat → Nat) (hk0 : kk 0 = 0) (hkb : ∀ i, kk i ≤ i)
    (hocc : ∀ i : Nat, i + p.size ≤ s.size → ((s.extract i (i + p.size) = p ∧ kk i < R.length ∧ rd R ((kk i : Nat) : Int) = (i : Int) ∧ kk (i + 1) = kk i + 1) ∨ (s.extract i (i + p.size) ≠ p ∧ (kk i < R.length → ∃ x : Nat, rd R ((kk i : Nat) : Int) = (x : Int) ∧ x ≠ i) ∧ kk (i + 1) = kk i)))
    (hend : ∀ i : Nat, i + p.size ≤ s.size + 1 → ¬ i + p.size ≤ s.size → kk i = R.length) (hend0 : ¬ p.size ≤ s.size → R.length = 0) (hcc : 0 ≤ cc ∧ cc ≤ 2 * (hs s.size : Int)) :
    Calls Try.prog 13 #[.slice A0 l0.length c0] w fun e w' => e = .returned (.bool true) ∧ Below w.heap.size w w' := by
  have HR := Aside0.mk hr0
  have HC := Aside0.mk hc0
  have H1 := Aside0.mk h1
  have H2 := Aside0.mk h2
  have H3 := Aside0.mk h3
  have H6 := Aside0.mk h6
  have hl1 : (l0.length : Int) ≤ 1048576 := by omega
  have HS := Aside0.mk (⟨hs1, hp1, hp2, hRl, hk0⟩ : s.size ≤ 120 ∧ 1 ≤ p.size ∧ p.size ≤ 120 ∧ R.length ≤ 120 ∧ kk 0 = 0)
  have HOC := Aside0.mk hocc
  have HKB := Aside0.mk hkb
  have HE := Aside0.mk hend
  have HE0 := Aside0.mk hend0
  have HCC := Aside0.mk hcc
  clear hr0 hc0 h1 h2 h3 h6 hl hs1 hp1 hp2 hRl hk0 hkb hocc hend hend0 hcc
  go_enter Try.func13, Try.ntmps13
  go_upto_region 8 with (first | (go_at_call 36; go_loud ((with_reducible refine (spec_DrawFindIn.calls k1 A0 c0 l0 s l p _ HR.out HC.out H1.out).mono ?_); rintro e w1 ⟨v1, rfl, ho, hb⟩; obtain ⟨A4, c4, e4⟩ := Kd.R_slice ho; subst e4; have HL1 := Aside0.mk ho; have HB1 := Aside0.mk hb; clear ho hb)) | (go_at_call 35; go_loud ((with_reducible refine (impl_FindIn.calls s A4 c4 l p R cc _ _ (Kd.R_reads' HL1.out).2.2 (Kd.R_reads' HL1.out).2.1 H2.out).mono ?_); rintro e w2 ⟨v2, rfl, ho, hb⟩; obtain ⟨A6, c6, e6⟩ := Kd.R_slice ho; subst e6; have HR2 := Aside0.mk ho; have HL2 := Aside0.mk (Kd.R_below HL1.out hb); have HB2 := Aside0.mk (below_step HB1.out hb); clear ho hb)) | (go_at_call 34; go_loud ((with_reducible refine (spec_FindIn.calls k3 s A4 c4 l p R cc _ _ (Kd.R_reads' HL2.out).2.2 (Kd.R_reads' HL2.out).2.1 H3.out).mono ?_); rintro e w3 ⟨v3, rfl, ho, hb⟩; obtain ⟨A9, c9, e9⟩ := Kd.R_slice ho; subst e9; have HS3 := Aside0.mk ho; have HR3 := Aside0.mk (Kd.R_below HR2.out hb); have HB3 := Aside0.mk (below_step HB2.out hb); clear ho hb)) | (go_at_call 32; go_loud ((with_reducible refine (laws_sameInts.calls k6 A6 c6 R A9 c9 R true _ (Kd.R_reads' HR3.out).2.2 (Kd.R_reads' HR3.out).2.1 (Kd.R_reads' HS3.out).2.2 (Kd.R_reads' HS3.out).2.1 H6.out).mono ?_); rintro e w6 ⟨rfl, ⟨nd, rfl⟩⟩)))
  have HCR := Aside0.mk (Kd.R_reads' (Kd.R_drewN HR3.out nd)).2.2
  have HBW := Aside0.mk (pw_below_drewN HB3.out nd)
  go_wp2
  go_loopg [12, 13] (s.size + 1) (fun kq v12 v13 w' => ∃ i : Nat, v12 = .int .i64 ((kk i : Nat) : Int) ∧ v13 = .int .i64 (i : Int) ∧ (i + p.size ≤ s.size + 1 ∨ (i = 0 ∧ ¬ p.size ≤ s.size)) ∧ kq + i = s.size + 1 ∧ Aside0 (Kd.C (Kd.int .i64) w' A6 R.length R) ∧ Aside0 (Below w.heap.size w w'))
  case atStart => exact ⟨0, by rw [HS.out.2.2.2.2]; rfl, rfl, by omega, by omega, HCR, HBW⟩
  case round =>
    obtain ⟨i, rfl, rfl, hi, hk, HRw, HBw⟩ := hrel
    obtain ⟨hs1, hp1, hp2, hRl, hk0⟩ := HS.out
    have hkb := HKB.out i
    have hs2 : (s.size : Int) ≤ 120 := by omega
    have hpz : (p.size : Int) ≤ 120 := by omega
    have hi8 : (i : Int) ≤ 121 := by omega
    obtain ⟨m, hm⟩ : ∃ m, m = i + p.size := ⟨_, rfl⟩
    have hw : wrap64 ((i : Int) + (p.size : Int)) = (m : Int) := by rw [w64 (by omega) (by omega)]; omega
    have hw2 : (i : Int) + (p.size : Int) = (m : Int) := by omega
    have hkk : ((kk i : Nat) : Int) ≤ 121 := by omega
    by_cases hlt : i + p.size ≤ s.size
    · have hlt2 : (m : Int) ≤ (s.size : Int) := by omega
      have him : (i : Int) ≤ (m : Int) := by omega
      rcases HOC.out i hlt with ⟨o1, o2, o3, o4⟩ | ⟨o1, o2, o4⟩
      · have hb : ((s.extract i m).toList == p.toList) = true := by rw [hm, o1]; simp
        obtain ⟨ad, eA, hxc⟩ := Kd.at_int HRw.out ((kk i : Nat) : Int) (by omega) (by omega)
        rw [o3, Int.toNat_natCast] at hxc
        cases eA
        have ho2 : ((kk i : Nat) : Int) < (R.length : Int) := by omega
        have O4 := Aside0.mk o4
        have HM := Aside0.mk hm
        have HK := Aside0.mk (⟨hi, hk, hlt⟩ : _ ∧ _ ∧ _)
        clear o1 o3 o4 hm hi hk hlt hp1 hp2 hRl hk0 hkb hs1
        go_wp2
        go_roundg (s.size - i)
        case measure => have h1 := HK.out.2.1; have h2 := HK.out.2.2; omega
        case rel => exact ⟨i + 1, by rw [O4.out]; go_num, by go_num, by have := HK.out.2.2; omega, by have := HK.out.2; omega, HRw, HBw⟩
      · have hb : ((s.extract i m).toList == p.toList) = false := by
          rw [beq_eq_false_iff_ne]
          intro e
          exact o1 (by rw [← hm]; exact Byt.toList_inj e)
        have O4 := Aside0.mk o4
        have HM := Aside0.mk hm
        have HK := Aside0.mk (⟨hi, hk, hlt⟩ : _ ∧ _ ∧ _)
        by_cases hkr : kk i < R.length
        · obtain ⟨x, hx, hne⟩ := o2 hkr
          obtain ⟨ad, eA, hxc⟩ := Kd.at_int HRw.out ((kk i : Nat) : Int) (by omega) (by omega)
          rw [hx, Int.toNat_natCast] at hxc
          cases eA
          have ho2 : ((kk i : Nat) : Int) < (R.length : Int) := by omega
          have hne2 : ((x : Int) == (i : Int)) = false := by rw [beq_eq_false_iff_ne]; omega
          have hne3 : ¬ (x : Int) = (i : Int) := by omega
          clear o1 o2 o4 hm hi hk hlt hp1 hp2 hRl hk0 hkb hs1 hx hne
          go_wp2
          go_roundg (s.size - i)
          case measure => have h1 := HK.out.2.1; have h2 := HK.out.2.2; omega
          case rel => exact ⟨i + 1, by rw [O4.out], by go_num, by have := HK.out.2.2; omega, by have := HK.out.2; omega, HRw, HBw⟩
        · have ho2 : ¬ ((kk i : Nat) : Int) < (R.length : Int) := by omega
          clear o1 o2 o4 hm hi hk hlt hp1 hp2 hRl hk0 hkb hs1
          go_wp2
          go_roundg (s.size - i)
          case measure => have h1 := HK.out.2.1; have h2 := HK.out.2.2; omega
          case rel => exact ⟨i + 1, by rw [O4.out], by go_num, by have := HK.out.2.2; omega, by have := HK.out.2; omega, HRw, HBw⟩
    · have hlt2 : ¬ (m : Int) ≤ (s.size : Int) := by omega
      have hlt3 : (s.size : Int) < (m : Int) := by omega
      have hkR : kk i = R.length := by
        rcases hi with hi | ⟨hi, hi2⟩
        · exact HE.out i hi hlt
        · rw [hi, hk0, HE0.out hi2]
      have HKR := Aside0.mk hkR
      clear hm hi hk hlt hp1 hp2 hRl hk0 hkb hs1 hkR
      go_wp2
      go_loopg [15, 16] s.size (fun kq v15 v16 w' => ∃ h n : Nat, v15 = .int .i64 (h : Int) ∧ v16 = .int .i64 (n : Int) ∧ n ≤ kq ∧ n ≤ 120 ∧ h ≤ 120 ∧ Aside0 (h + hs n = hs s.size) ∧ Aside0 (Below w.heap.size w w'))
      case atStart => exact ⟨0, s.size, rfl, rfl, Nat.le_refl _, by omega, by omega, ⟨by omega⟩, HBw⟩
      case round =>
        obtain ⟨h, n, rfl, rfl, hn1, hn2, hh, HH, HBx⟩ := hrel
        have hn3 : (n : Int) ≤ 120 := by omega
        have hh3 : (h : Int) ≤ 120 := by omega
        by_cases hn : 0 < n
        · have hn4 : (0 : Int) < (n : Int) := by omega
          obtain ⟨q, hq⟩ : ∃ q, q = n / 2 := ⟨_, rfl⟩
          have hq1 : Int.tdiv (n : Int) 2 = (q : Int) := by rw [Int.tdiv_eq_ediv_of_nonneg (by omega)]; omega
          have hq2 : (q : Int) ≤ 120 := by omega
          have HQ := Aside0.mk (show h + 1 + hs q = hs s.size from by have := HH.out; rw [hs_pos n hn, ← hq] at this; omega)
          have HQ2 := Aside0.mk (show h + 1 ≤ 120 from by have := HQ.out; have := hs_bound s.size; have := HS.out.1; omega)
          have HQ3 := Aside0.mk (show q + 1 ≤ n from by omega)
          clear hq
          go_wp2
          go_roundg q
          case measure => have := HQ3.out; omega
          case rel => exact ⟨h + 1, q, by go_num, rfl, Nat.le_refl _, by omega, HQ2.out, HQ, HBx⟩
        · have hn4 : ¬ (0 : Int) < (n : Int) := by omega
          have hz : n = 0 := by omega
          have hhe : h = hs s.size := by have := HH.out; rw [hz, hs_zero] at this; omega
          have hc1 := HCC.out.2
          have hc2 : cc ≤ 2 * (h : Int) := by rw [hhe]; exact hc1
          have hc0 := HCC.out.1
          have hkR : ((kk i : Nat) : Int) = (R.length : Int) := by rw [HKR.out]
          clear hc1 hhe
          go_wp2
          go_ret
          exact ⟨by first | rfl | (simp; done) | (simp [*]; done), HBx.out⟩
end Go.Proofs.Ytppmigiknidjhaa.LwFo
end

section
/- The law FnFound returns true, at all choices. No conditions. -/
namespace Go.Proofs.Ytppmigiknidjhaa.LwFo
set_option linter.unusedVariables false
open Go.RowKit Go.Lib Go.Proofs.Ytppmigiknidjhaa.PQ Go.Proofs.YtppmigiknidjhaaW.PrintWords Go.Proofs.YtppmigiknidjhaaW.PrintLast Go.Proofs.Ytppmigiknidjhaa.Pre Go.Proofs.Ytppmigiknidjhaa.Srt Go.Proofs.Ytppmigiknidjhaa.Suf Go.Proofs.Ytppmigiknidjhaa.Rk Go.Proofs.Ytppmigiknidjhaa.Fi
theorem hv_fst (less : Nat → Bool) : ∀ (f lo hi c : Nat), (hv less f lo hi c).1 = bsGo less f lo hi
  | 0, _, _, _ => rfl
  | f + 1, lo, hi, c => by
    unfold hv bsGo
    by_cases h : lo < hi
    · rw [if_pos h, if_pos h]
      by_cases h2 : less ((lo + hi) / 2) = true
      · rw [if_pos h2, if_pos h2]
        exact hv_fst less f _ _ _
      · rw [if_neg h2, if_neg h2]
        exact hv_fst less f _ _ _
    · rw [if_neg h, if_neg h]
theorem hv_cnt (less : Nat → Bool) : ∀ (f lo hi c : Nat), (hv less f lo hi c).2 ≤ c + hs (hi - lo)
  | 0, lo, hi, c => by show c ≤ _; omega
  | f + 1, lo, hi, c => by
    unfold hv
    by_cases h : lo < hi
    · rw [if_pos h]
      have hp := hs_pos (hi - lo) (by omega)
      split
      · have h1 := hv_cnt less f ((lo + hi) / 2 + 1) hi (c + 1)
        have h2 := hs_le (hi - ((lo + hi) / 2 + 1)) ((hi - lo) / 2) (by omega)
        omega
      · have h1 := hv_cnt less f lo ((lo + hi) / 2) (c + 1)
        have h2 := hs_le ((lo + hi) / 2 - lo) ((hi - lo) / 2) (by omega)
        omega
    · rw [if_neg h]
      show c ≤ _
      omega
theorem cut_at (less : Nat → Bool) : ∀ (n : Nat), (∀ i j, i < j → j < n → less j = true → less i = true) → ∃ b, b ≤ n ∧ (∀ t, t < b → less t = true) ∧ (∀ t, b ≤ t → t < n → less t = false)
  | 0, _ => ⟨0, by omega, fun t h => by omega, fun t h h2 => by omega⟩
  | n + 1, hm => by
    obtain ⟨b, h1, h2, h3⟩ := cut_at less n (fun i j h4 h5 h6 => hm i j h4 (by omega) h6)
    by_cases hb : b = n
    · cases hl : less n with
      | true =>
        refine ⟨n + 1, by omega, fun t ht => ?_, fun t ht1 ht2 => by omega⟩
        by_cases htn : t = n
        · rw [htn]; exact hl
        · exact h2 t (by omega)
      | false =>
        refine ⟨b, by omega, h2, fun t ht1 ht2 => ?_⟩
        have : t = n := by omega
        rw [this]; exact hl
    · refine ⟨b, by omega, h2, fun t ht1 ht2 => ?_⟩
      by_cases htn : t = n
      · subst htn
        cases hl : less t with
        | false => rfl
        | true =>
          have h4 := hm b t (by omega) (by omega) hl
          rw [h3 b (Nat.le_refl _) (by omega)] at h4
          cases h4
      · exact h3 t ht1 (by omega)
theorem bs_cut (less : Nat → Bool) (n lo b : Nat) (hb : b ≤ n) (hlo : lo ≤ b) (h1 : ∀ t, t < b → less t = true) (h2 : ∀ t, b ≤ t → t < n → less t = false) : bsGo less (n - lo) lo n = b := by
  rw [bsGo_congr less (fun t => decide (t < b)) n (fun t ht => ?_) _ _ _ (Nat.le_refl _)]
  · exact bsGo_spec _ b (fun t ht => by simp [ht]) (fun t ht => by simp; omega) _ _ _ (Nat.le_refl _) hlo hb
  · by_cases h : t < b
    · rw [h1 t h]; simp [h]
    · rw [h2 t (by omega) ht]; simp; omega

theorem lt_of_take : ∀ (z : Nat) (x y : List UInt8), y.length ≤ z → lsL (x.take z) y = true → lsL x y = true
  | z, x, [], _, h => by
    have h0 : ∀ l, lsL l [] = false := fun l => by unfold lsL; cases l <;> rfl
    rw [h0] at h
    cases h
  | 0, x, b :: y, hl, _ => by simp at hl
  | z + 1, [], b :: y, _, h => by rw [List.take_nil] at h; exact h
  | z + 1, a :: x, b :: y, hl, h => by
    have h0 : ∀ l m, lsL (a :: l) (b :: m) = (decide (a < b) || (a == b && lsL l m)) := fun l m => by unfold lsL; rfl
    rw [List.take_succ_cons, h0] at h
    rw [h0]
    simp only [Bool.or_eq_true, decide_eq_true_eq, Bool.and_eq_true] at *
    rcases h with h | ⟨h1, h2⟩
    · exact .inl h
    · exact .inr ⟨h1, lt_of_take z x y (by simpa using hl) h2⟩
theorem not_lt_take : ∀ (z : Nat) (x : List UInt8), lsL x (x.take z) = false
  | z, [] => by rw [List.take_nil]; exact lsL_irrefl _
  | 0, a :: x => by unfold lsL; rfl
  | z + 1, a :: x => by
    have h0 : ∀ l m, lsL (a :: l) (a :: m) = (decide (a < a) || (a == a && lsL l m)) := fun l m => by unfold lsL; rfl
    rw [List.take_succ_cons, h0, not_lt_take z x]
    simp
/-- A text stands at a place. -/
def occ (s p : ByteArray) (i : Nat) : Bool := decide (i + p.size ≤ s.size ∧ s.extract i (i + p.size) = p)
theorem pL (p : ByteArray) : p.toList.length = p.size := by rw [ByteArray.toList_eq]; rfl
theorem occ_iff (s p : ByteArray) (i : Nat) (hi : i ≤ s.size) (hp : 1 ≤ p.size) : ((suf s i).toList).take p.size = p.toList ↔ occ s p i = true := by
  unfold occ
  rw [decide_eq_true_eq, sufL]
  have hl : (s.data.toList.drop i).length = s.size - i := by rw [List.length_drop]; rfl
  constructor
  · intro h
    have h1 := congrArg List.length h
    rw [List.length_take, hl, pL] at h1
    refine ⟨by omega, ?_⟩
    apply Byt.toList_inj
    rw [← h, ByteArray.toList_eq, ByteArray.data_extract, Array.toList_extract, List.extract_eq_take_drop, Nat.add_sub_cancel_left]
  · intro h
    conv => rhs; rw [← h.2]
    rw [ByteArray.toList_eq, ByteArray.data_extract, Array.toList_extract, List.extract_eq_take_drop, Nat.add_sub_cancel_left]
theorem cutL (t p : ByteArray) : (cut t p).toList = t.toList.take p.size := by
  rcases cut_cases t p with ⟨h1, h2⟩ | ⟨h1, h2⟩
  · rw [h2, ByteArray.toList_eq, ByteArray.toList_eq, ByteArray.data_extract, Array.toList_extract, List.extract_eq_take_drop]
    simp
  · rw [h2, List.take_of_length_le]
    rw [pL]
    omega
theorem both_iff (s p : ByteArray) (i : Nat) (hi : i ≤ s.size) (hp : 1 ≤ p.size) : (ltS (suf s i) p = false ∧ ltS p (cut (suf s i) p) = false) ↔ occ s p i = true := by
  rw [← occ_iff s p i hi hp]
  show (lsL (suf s i).toList p.toList = false ∧ lsL p.toList (cut (suf s i) p).toList = false) ↔ _
  rw [cutL]
  generalize (suf s i).toList = x
  constructor
  · rintro ⟨h1, h2⟩
    refine (lsL_tri ?_ h2)
    cases h : lsL (x.take p.size) p.toList with
    | false => rfl
    | true =>
      rw [lt_of_take p.size x p.toList (by rw [pL]; exact Nat.le_refl _) h] at h1
      cases h1
  · intro h
    rw [h, lsL_irrefl]
    refine ⟨?_, rfl⟩
    rw [← h]
    exact not_lt_take _ _
/-- The places, as they rise. -/
def occs (s p : ByteArray) (n : Nat) : List Nat := (List.range n).filter (occ s p)
theorem occs_succ (s p : ByteArray) (n : Nat) : occs s p (n + 1) = occs s p n ++ if occ s p n = true then [n] else [] := by
  unfold occs
  rw [List.range_succ, List.filter_append]
  congr 1
  by_cases h : occ s p n = true <;> simp [h]
theorem occs_pre (s p : ByteArray) (i : Nat) : ∀ k, occs s p i <+: occs s p (i + k)
  | 0 => List.prefix_rfl
  | k + 1 => by
    rw [show i + (k + 1) = (i + k) + 1 by omega, occs_succ]
    exact (occs_pre s p i k).trans (List.prefix_append _ _)
theorem occs_at (s p : ByteArray) (i n : Nat) (hi : i < n) (h : occ s p i = true) : (occs s p n)[(occs s p i).length]? = some i := by
  have h1 := occs_pre s p (i + 1) (n - (i + 1))
  rw [show i + 1 + (n - (i + 1)) = n by omega, occs_succ, if_pos h] at h1
  obtain ⟨r, hr⟩ := h1
  rw [← hr, List.getElem?_append_left (by simp), List.getElem?_append_right (Nat.le_refl _), Nat.sub_self]
  rfl
theorem occs_stop (s p : ByteArray) (i : Nat) (h : ∀ t, i ≤ t → occ s p t = false) : ∀ k, occs s p (i + k) = occs s p i
  | 0 => rfl
  | k + 1 => by
    rw [show i + (k + 1) = (i + k) + 1 by omega, occs_succ, h (i + k) (by omega), occs_stop s p i h k]
    simp
theorem sufs_get (s : ByteArray) (t : Nat) (ht : t < s.size) : ∃ x : Nat, rd (sufs s) (t : Int) = (x : Int) ∧ x < s.size ∧ (sufs s)[t]? = some (x : Int) := by
  have hl := sufs_len s
  obtain ⟨i, e, hi⟩ := sufs_mem s _ (List.getElem_mem (show t < (sufs s).length by omega))
  refine ⟨i, ?_, hi, ?_⟩
  · rw [Ints.rd_get _ t (by omega)]
    exact e
  · rw [List.getElem?_eq_getElem (by omega), e]
theorem sorted2 (s : ByteArray) (i j x y : Nat) (hij : i < j) (hj : j < s.size) (hx : rd (sufs s) (i : Int) = (x : Int)) (hy : rd (sufs s) (j : Int) = (y : Int)) : ltS (suf s x) (suf s y) = true := by
  have hl := sufs_len s
  rw [Ints.rd_get _ i (by omega)] at hx
  rw [Ints.rd_get _ j (by omega)] at hy
  have h := (List.pairwise_iff_getElem.1 (sufs_sorted s)) i j (by omega) (by omega) hij
  unfold ltI at h
  rw [hx, hy, Int.toNat_natCast, Int.toNat_natCast] at h
  exact h
theorem cuts (s p : ByteArray) (hp : 1 ≤ p.size) : ∃ b2 b3, b2 ≤ s.size ∧ b3 ≤ s.size ∧ b2 ≤ b3 ∧ (fr s p (sufs s)).1 = b2 ∧ (tt s p (sufs s)).1 = b3 ∧
    (∀ t x : Nat, t < s.size → rd (sufs s) (t : Int) = (x : Int) → ((b2 ≤ t ∧ t < b3) ↔ occ s p x = true)) := by
  have hl := sufs_len s
  have e2 : ∀ t x : Nat, rd (sufs s) (t : Int) = (x : Int) → less2 s p (sufs s) t = ltS (suf s x) p := by
    intro t x h
    unfold less2
    rw [h, Int.toNat_natCast]
  have e3 : ∀ t x : Nat, rd (sufs s) (t : Int) = (x : Int) → less3 s p (sufs s) t = !(ltS p (cut (suf s x) p)) := by
    intro t x h
    unfold less3
    rw [h, Int.toNat_natCast]
  obtain ⟨b2, a1, a2, a3⟩ := cut_at (less2 s p (sufs s)) s.size (fun i j hij hj h => by
    obtain ⟨x, hx, _⟩ := sufs_get s i (by omega)
    obtain ⟨y, hy, _⟩ := sufs_get s j hj
    rw [e2 j y hy] at h
    rw [e2 i x hx]
    exact ltS_trans (sorted2 s i j x y hij hj hx hy) h)
  obtain ⟨b3, c1, c2, c3⟩ := cut_at (less3 s p (sufs s)) s.size (fun i j hij hj h => by
    obtain ⟨x, hx, _⟩ := sufs_get s i (by omega)
    obtain ⟨y, hy, _⟩ := sufs_get s j hj
    rw [e3 j y hy] at h
    rw [e3 i x hx]
    simp only [Bool.not_eq_true'] at *
    have h1 : lsL (suf s x).toList (suf s y).toList = true := sorted2 s i j x y hij hj hx hy
    have h2 := lt_take p.size _ _ h1
    rw [← cutL, ← cutL] at h2
    cases h3 : ltS p (cut (suf s x) p) with
    | false => rfl
    | true => exact absurd (ltS_ntrans h h2) (by rw [h3]; decide))
  have hle : b2 ≤ b3 := by
    by_cases h : b2 ≤ b3
    · exact h
    · exfalso
      obtain ⟨x, hx, hxs, _⟩ := sufs_get s b3 (by omega)
      have h1 := a2 b3 (by omega)
      have h2 := c3 b3 (Nat.le_refl _) (by omega)
      rw [e2 b3 x hx] at h1
      rw [e3 b3 x hx] at h2
      simp only [Bool.not_eq_false'] at h2
      have h3 : lsL (suf s x).toList p.toList = true := h1
      have h4 := lt_take p.size _ _ h3
      have h6 : p.toList.take p.size = p.toList := List.take_of_length_le (by rw [pL]; exact Nat.le_refl _)
      rw [h6, ← cutL] at h4
      have h5 : lsL p.toList (cut (suf s x) p).toList = true := h2
      rw [h5] at h4
      cases h4
  have f1 : (fr s p (sufs s)).1 = b2 := by
    unfold fr
    rw [hv_fst, hl]
    exact bs_cut _ s.size 0 b2 a1 (Nat.zero_le _) a2 a3
  refine ⟨b2, b3, a1, c1, hle, f1, ?_, ?_⟩
  · unfold tt
    rw [hv_fst, f1, hl]
    exact bs_cut _ s.size b2 b3 c1 hle c2 c3
  · intro t x ht hx
    obtain ⟨x2, hx2, hxs, _⟩ := sufs_get s t ht
    have hxx : x2 = x := by rw [hx] at hx2; omega
    subst hxx
    rw [← both_iff s p x2 (by omega) hp]
    constructor
    · rintro ⟨h1, h2⟩
      have h3 := a3 t h1 ht
      have h4 := c2 t h2
      rw [e2 t x2 hx] at h3
      rw [e3 t x2 hx] at h4
      exact ⟨h3, by simpa using h4⟩
    · rintro ⟨h1, h2⟩
      rw [← e2 t x2 hx] at h1
      have h5 : less3 s p (sufs s) t = true := by rw [e3 t x2 hx, h2]; rfl
      refine ⟨?_, ?_⟩
      · by_cases h : b2 ≤ t
        · exact h
        · rw [a2 t (by omega)] at h1
          cases h1
      · by_cases h : t < b3
        · exact h
        · rw [c3 t (by omega) ht] at h5
          cases h5
theorem found_list (s p : ByteArray) (hp : 1 ≤ p.size) : srt (mid s p (sufs s)) = (occs s p s.size).map (fun i : Nat => (i : Int)) := by
  obtain ⟨b2, b3, h1, h2, h3, f1, f2, hiff⟩ := cuts s p hp
  have hl := sufs_len s
  refine perm_le_eq (r := fun a b => a ≤ b) (fun a b h1 h2 => by omega) ?_ (srt_sorted _) ?_
  · refine (List.mergeSort_perm _ _).trans ?_
    have hnd : (sufs s).Nodup := (sufs_sorted s).imp (fun {a b} h e => by
      subst e
      unfold ltI at h
      rw [ltS_irrefl] at h
      cases h)
    have hmn : (mid s p (sufs s)).Nodup := by
      unfold mid
      exact (hnd.sublist (List.take_sublist _ _)).sublist (List.drop_sublist _ _)
    have hon : ((occs s p s.size).map (fun i : Nat => (i : Int))).Nodup := by
      unfold List.Nodup
      rw [List.pairwise_map]
      unfold occs
      exact (List.Pairwise.filter _ List.nodup_range).imp (fun {a b} h e => h (by omega))
    refine (List.perm_ext_iff_of_nodup hmn hon).2 ?_
    intro x
    unfold mid
    rw [f1, f2]
    constructor
    · intro hx
      obtain ⟨k, hk, e⟩ := List.mem_iff_getElem.1 hx
      rw [List.length_drop, List.length_take] at hk
      rw [List.getElem_drop, List.getElem_take] at e
      obtain ⟨y, hy, hys, hy2⟩ := sufs_get s (b2 + k) (by omega)
      rw [List.getElem?_eq_getElem (by omega)] at hy2
      have e2 : x = (y : Int) := by rw [← e]; exact Option.some.inj hy2
      subst e2
      have := (hiff (b2 + k) y (by omega) hy).1 ⟨by omega, by omega⟩
      exact List.mem_map.2 ⟨y, List.mem_filter.2 ⟨List.mem_range.2 hys, this⟩, rfl⟩
    · intro hx
      obtain ⟨y, hy, rfl⟩ := List.mem_map.1 hx
      obtain ⟨hy1, hy2⟩ := List.mem_filter.1 hy
      have hys := List.mem_range.1 hy1
      obtain ⟨t, ht, e⟩ := place_of s y hys
      have hrd : rd (sufs s) (t : Int) = (y : Int) := by
        rw [Ints.rd_get _ t (by omega), ← e]
        rw [List.getD_eq_getElem?_getD, List.getElem?_eq_getElem (by omega), Option.getD_some]
      obtain ⟨q1, q2⟩ := (hiff t y ht hrd).2 hy2
      rw [Ints.rd_get _ t (by omega)] at hrd
      refine List.mem_iff_getElem.2 ⟨t - b2, by rw [List.length_drop, List.length_take]; omega, ?_⟩
      rw [List.getElem_drop, List.getElem_take]
      rw [← hrd]
      congr 1
      omega
  · rw [List.pairwise_map]
    unfold occs
    have h5 : (List.range s.size).Pairwise (fun a b => a < b) := List.pairwise_lt_range
    exact (List.Pairwise.filter _ h5).imp (fun {a b} h => by omega)
theorem calls (A0 : Option Addr) (c0 : Nat) (l0 : List Int) (w : World) (hr0 : Kd.C (Kd.int .u8) w A0 l0.length l0) (hc0 : l0.length ≤ c0) (hwf : ∀ x ∈ l0, (Lit.int .u8 x).wf = true) :
    Calls Try.prog 13 #[.slice A0 l0.length c0] w fun e w' => e = .returned (.bool true) ∧ Below w.heap.size w w' := by
  by_cases hl : l0.length ≤ 1048576
  · obtain ⟨s, l, p, hd, hz, hll⟩ := DrS.drawFind (Cur.bytes_wf hwf)
    obtain ⟨k1, h1⟩ := hd.ex
    have hal := ansFind_len s l p
    obtain ⟨k3, h3⟩ := (specFind_ev s l p (by omega)).ex
    obtain ⟨k6, h6⟩ := (same_self (ansFind s l p).1 (by omega)).ex
    have h2 : impl_FindIn.f s l p = some (ansFind s l p) := rfl
    by_cases hok : okF s l p = true
    · have ea : ansFind s l p = (srt (mid s p l), (((tt s p l).2 : Nat) : Int), true) := by unfold ansFind; rw [if_pos hok]
      rw [ea] at h2 h3 h6 hal
      obtain ⟨⟨hs1, hlx⟩, hp1, hp2⟩ := of_decide_eq_true hok
      subst hlx
      have hf := found_list s p hp1
      have hc1 := hv_cnt (less2 s p (sufs s)) ((sufs s).length - 0) 0 (sufs s).length 0
      have hc2 := hv_cnt (less3 s p (sufs s)) ((sufs s).length - (fr s p (sufs s)).1) (fr s p (sufs s)).1 (sufs s).length (fr s p (sufs s)).2
      have hc3 : (tt s p (sufs s)).2 ≤ 2 * hs s.size := by
        have e1 : (fr s p (sufs s)).2 ≤ 0 + hs ((sufs s).length - 0) := hc1
        have e2 : (tt s p (sufs s)).2 ≤ (fr s p (sufs s)).2 + hs ((sufs s).length - (fr s p (sufs s)).1) := hc2
        have e3 := hs_le ((sufs s).length - (fr s p (sufs s)).1) s.size (by rw [sufs_len]; omega)
        rw [sufs_len, Nat.sub_zero] at e1
        omega
      clear hc1 hc2
      rw [hf] at h2 h3 h6 hal
      clear hf
      have hRl : ((occs s p s.size).map (fun i : Nat => (i : Int))).length = (occs s p s.size).length := List.length_map ..
      refine some_ k1 k3 k6 A0 c0 l0 w hr0 hc0 hl s p (sufs s) _ _ h1 h2 h3 h6 hs1 hp1 hp2 hal (fun i => (occs s p i).length) (by simp [occs]) ?_ ?_ ?_ ?_ ⟨by omega, by omega⟩
      · intro i
        unfold occs
        refine Nat.le_trans (List.length_filter_le _ _) ?_
        rw [List.length_range]
        exact Nat.le_refl _
      · intro i hi
        have hin : i < s.size := by omega
        by_cases ho : occ s p i = true
        · left
          have h5 := occs_at s p i s.size hin ho
          obtain ⟨h6, h7⟩ := List.getElem?_eq_some_iff.1 h5
          refine ⟨(of_decide_eq_true ho).2, by rw [hRl]; exact h6, ?_, by show (occs s p (i + 1)).length = _; rw [occs_succ, if_pos ho]; simp⟩
          rw [Ints.rd_get _ _ (by rw [hRl]; exact h6), List.getElem_map, h7]
        · right
          refine ⟨fun e => ho (decide_eq_true ⟨hi, e⟩), ?_, by show (occs s p (i + 1)).length = _; rw [occs_succ, if_neg ho]; simp⟩
          intro hlt
          rw [Ints.rd_get _ _ hlt, List.getElem_map]
          refine ⟨_, rfl, ?_⟩
          intro e
          have hm : (occs s p s.size)[(occs s p i).length]'(by rw [hRl] at hlt; exact hlt) ∈ occs s p s.size := List.getElem_mem _
          rw [e] at hm
          exact ho (List.mem_filter.1 hm).2
      · intro i hi hn
        rw [hRl]
        have h5 := occs_stop s p i (fun t ht => by
          unfold occ
          exact decide_eq_false (fun h => by omega)) (s.size - i)
        rw [show i + (s.size - i) = s.size by omega] at h5
        show (occs s p i).length = _
        rw [h5]
      · intro hn
        rw [hRl]
        have h5 := occs_stop s p 0 (fun t ht => by
          unfold occ
          exact decide_eq_false (fun h => by omega)) s.size
        rw [Nat.zero_add] at h5
        rw [h5]
        rfl
    · have ea : ansFind s l p = ([], 0, false) := by unfold ansFind; rw [if_neg hok]
      rw [ea] at h2 h3 h6
      exact none_ k1 k3 k6 A0 c0 l0 w hr0 hc0 hl s p l [] 0 false h1 h2 h3 h6 rfl rfl
  · exact big A0 c0 l0 w hl
end Go.Proofs.Ytppmigiknidjhaa.LwFo
end

section
-- Written by a program of this session (pprint.py) out of the translation's print; Lean checks it.
namespace Go.Proofs.Ytppmigiknidjhaa.PQ
open Go.RowKit Go.Proofs.YtppmigiknidjhaaW.PrintWords Go.Proofs.YtppmigiknidjhaaW.PrintLast Go.Proofs.YtppmigiknidjhaaW.PrintMore
attribute [local go_sem] max2_int min2_int max_two min_two max_three min_three max_four min_four   -- for this text's walks alone
set_option linter.unusedVariables false
set_option linter.unusedSimpArgs false

--OWNPART laws_FnFound
/-! ### laws_FnFound: function 13, by hand -/
--NEEDS loop.example/g00274/spec.DrawFindIn
--NEEDS loop.example/g00274/impl.FindIn
--NEEDS loop.example/g00274/spec.FindIn
--NEEDS loop.example/g00274/laws.sameInts
--IMPORT LwFp
def laws_FnFound.Pure : Prop := True
theorem laws_FnFound.walk (P : laws_FnFound.Pure) (a0 : Option Addr) (c0 : Nat) (l0 : List Int) (w : World) (hr0 : Kd.C (Kd.int .u8) w a0 l0.length l0) (hc0 : l0.length ≤ c0) (w0 : l0.length ≤ maxLen ∧ ∀ x_ ∈ l0, (Lit.int .u8 x_).wf = true) :
    Calls Try.prog 13 #[.slice a0 l0.length c0] w fun e w' => e = .returned (.bool true) ∧ Below w.heap.size w w' :=
  LwFo.calls a0 c0 l0 w hr0 hc0 w0.2

end Go.Proofs.Ytppmigiknidjhaa.PQ
end

section
/- Nothing is left of the law FnFound: it is walked whole. No conditions. -/
namespace Go.Proofs.Ytppmigiknidjhaa.Pure
open Go.Proofs.Ytppmigiknidjhaa.PQ
theorem FnFound : laws_FnFound.Pure := trivial
end Go.Proofs.Ytppmigiknidjhaa.Pure
end

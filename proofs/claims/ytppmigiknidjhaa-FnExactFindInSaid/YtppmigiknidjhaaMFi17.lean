/- Several texts in one: what the claim's last text rests on. No conditions. -/
import Derived.Test.YtppmigiknidjhaaMFi15
import Derived.Test.YtppmigiknidjhaaMFi16
import Derived.Test.YtppmigiknidjhaaMFi10
section
/- The reference's FindIn is the program's. No conditions. -/
namespace Go.Proofs.Ytppmigiknidjhaa.Fi
set_option linter.unusedVariables false
open Go.RowKit Go.Sort Go.Lib Go.Proofs.Ytppmigiknidjhaa.PQ Go.Proofs.YtppmigiknidjhaaW.PrintWords Go.Proofs.YtppmigiknidjhaaW.PrintLast Go.Proofs.Ytppmigiknidjhaa.Pre Go.Proofs.Ytppmigiknidjhaa.Srt Go.Proofs.Ytppmigiknidjhaa.Suf

/-- A number put into its place. -/
def insI (v : Int) (out : List Int) : List Int := out.takeWhile (fun x => decide (x < v)) ++ v :: out.dropWhile (fun x => decide (x < v))
theorem insI_perm (v : Int) (out : List Int) : (insI v out).Perm (out ++ [v]) := by
  unfold insI
  refine List.Perm.trans List.perm_middle ?_
  rw [List.takeWhile_append_dropWhile]
  exact List.perm_append_comm (l₁ := [v])
theorem insI_sorted (v : Int) (out : List Int) (h : out.Pairwise (fun a b => a ≤ b)) : (insI v out).Pairwise (fun a b => a ≤ b) := by
  unfold insI
  have hd : ∀ x ∈ out.dropWhile (fun x => decide (x < v)), v ≤ x := by
    cases e : out.dropWhile (fun x => decide (x < v)) with
    | nil => intro x hx; cases hx
    | cons a r =>
      have h1 := List.head?_dropWhile_not (fun x => decide (x < v)) out
      rw [e] at h1
      have h2 : ¬ a < v := by simpa using h1
      have hs : (a :: r).Pairwise (fun a b => a ≤ b) := e ▸ h.sublist (List.dropWhile_sublist _)
      intro x hx
      rcases List.mem_cons.1 hx with rfl | hx
      · omega
      · have := (List.pairwise_cons.1 hs).1 x hx
        omega
  refine List.pairwise_append.2 ⟨h.sublist (List.takeWhile_sublist _), List.pairwise_cons.2 ⟨hd, h.sublist (List.dropWhile_sublist _)⟩, ?_⟩
  intro a ha b hb
  have h1 : a < v := by simpa using takeWhile_all _ out a ha
  rcases List.mem_cons.1 hb with rfl | hb
  · omega
  · have := hd b hb
    omega
theorem srt_sorted (l : List Int) : (srt l).Pairwise (fun a b => a ≤ b) := by
  unfold srt
  have := List.pairwise_mergeSort (le := fun (x y : Int) => decide (x ≤ y)) (fun a b c h1 h2 => by simp at *; omega) (fun a b => by simp; omega) l
  exact this.imp (fun h => by simpa using h)
theorem ins_loop (v : Int) (out M : List Int) (c len i : Int) (R : List Int × Int × Bool) (ho : out.length ≤ 1048576) (hi : 0 ≤ i ∧ i ≤ 1048576) (hR : Evt (fun k => spec_FindIn.l2 k c (insI v out) M len (i + 1)) R) :
    ∀ (m j : Nat), j + m = out.length → (∀ t, t < j → ∃ h : t < out.length, out[t] < v) → Evt (fun k => spec_FindIn.l3 k c out v (j : Int) M len i) R := by
  have fin : ∀ j : Nat, j = (out.takeWhile (fun x => decide (x < v))).length → Evt (fun k => if (j : Int) ≤ (out.length : Int) then ((some (out.take ((j : Int)).toNat : List Int)).bind fun y449 => (if ([] : List Int).length + y449.length < 17592186044416 then ((some (([] : List Int) ++ y449 : List Int)).bind fun y453 => (if y453.length < 17592186044416 then ((some (y453 ++ [v] : List Int)).bind fun y456 => ((some (out.drop ((j : Int)).toNat : List Int)).bind fun y459 => (if y456.length + y459.length < 17592186044416 then (spec_FindIn.l2 k c (y456 ++ y459) M len (wrap64 (i + 1))) else (none)))) else (none))) else (none))) else (none)) R := by
    intro j hj
    have hjl : j ≤ out.length := by rw [hj]; exact (List.takeWhile_sublist _).length_le
    refine Evt.pos (by omega) (Evt.bsome ?_)
    rw [Int.toNat_natCast]
    obtain ⟨ht, hd⟩ := take_while_len (fun x => decide (x < v)) out
    rw [hj, ht, hd]
    have h1 : (out.takeWhile (fun x => decide (x < v))).length ≤ out.length := (List.takeWhile_sublist _).length_le
    have h2 : (out.dropWhile (fun x => decide (x < v))).length ≤ out.length := (List.dropWhile_sublist _).length_le
    refine Evt.pos (by simp; omega) (Evt.bsome (Evt.pos (by simp; omega) (Evt.bsome (Evt.bsome (Evt.pos (by simp; omega) ?_)))))
    rw [w64 (n := i + 1) (by omega) (by omega)]
    refine Evt.congr (fun k => ?_) hR
    congr 1
    simp [insI]
  have tw : ∀ j : Nat, j ≤ out.length → (∀ t, t < j → ∃ h : t < out.length, out[t] < v) → (∀ h : j < out.length, ¬ out[j] < v) → j = (out.takeWhile (fun x => decide (x < v))).length := by
    intro j hj h1 h2
    have e : out = out.take j ++ out.drop j := (List.take_append_drop j out).symm
    have h3 : ∀ x ∈ out.take j, decide (x < v) = true := by
      intro x hx
      obtain ⟨t, ht, rfl⟩ := List.mem_iff_getElem.1 hx
      have ht2 : t < j := by
        have := ht
        rw [List.length_take] at this
        omega
      obtain ⟨h, hp⟩ := h1 t ht2
      rw [List.getElem_take]
      exact decide_eq_true hp
    have h4 : (out.takeWhile (fun x => decide (x < v))) = out.take j := by
      conv => lhs; rw [e]
      rw [List.takeWhile_append_of_pos h3]
      have h5 : (out.drop j).takeWhile (fun x => decide (x < v)) = [] := by
        by_cases hlt : j < out.length
        · rw [List.drop_eq_getElem_cons hlt, List.takeWhile_cons, if_neg (by simpa using h2 hlt)]
        · rw [List.drop_eq_nil_of_le (by omega)]
          rfl
      rw [h5, List.append_nil]
    rw [h4, List.length_take]
    omega
  intro m
  induction m with
  | zero =>
    intro j hj hpre
    refine Evt.step (fun k => spec_FindIn.l3.eq_2 _ _ _ _ _ _ _ k) (Evt.neg (by omega) (Evt.pos (by omega) (fin j (tw j (by omega) hpre (fun h => by omega)))))
  | succ m ih2 =>
    intro j hj hpre
    have hlt : j < out.length := by omega
    refine Evt.step (fun k => spec_FindIn.l3.eq_2 _ _ _ _ _ _ _ k) (Evt.pos (by omega) (Evt.pos (by omega) ?_))
    rw [Ints.rd_get out j hlt]
    by_cases hpj : out[j] < v
    · refine Evt.pos hpj ?_
      rw [w64 (n := (j : Int) + 1) (by omega) (by omega)]
      refine ih2 (j + 1) (by omega) (fun t ht => ?_)
      by_cases htj : t = j
      · subst htj
        exact ⟨hlt, hpj⟩
      · exact hpre t (by omega)
    · exact Evt.neg hpj (fin j (tw j (by omega) hpre (fun h => hpj)))
theorem sort_loop (M : List Int) (c : Int) (hM : M.length ≤ 1048576) : ∀ (m i : Nat) (out : List Int), i + m = M.length → out.Perm (M.take i) → out.Pairwise (fun a b => a ≤ b) →
    Evt (fun k => spec_FindIn.l2 k c out M (M.length : Int) (i : Int)) (srt M, c, true) := by
  intro m
  induction m with
  | zero =>
    intro i out hi hp hs
    refine Evt.step (fun k => spec_FindIn.l2.eq_2 _ _ _ _ _ k) (Evt.neg (by omega) ((Evt.const _).eq ?_))
    rw [List.take_of_length_le (by omega)] at hp
    rw [Rk.perm_le_eq (r := fun a b => a ≤ b) (fun a b h1 h2 => by omega) (hp.trans (List.mergeSort_perm M (fun x y => decide (x ≤ y))).symm) hs (srt_sorted M)]
    rfl
  | succ m ih =>
    intro i out hi hp hs
    have hlt : i < M.length := by omega
    have hol : out.length = i := by
      rw [hp.length_eq, List.length_take]
      omega
    refine Evt.step (fun k => spec_FindIn.l2.eq_2 _ _ _ _ _ k) (Evt.pos (by omega) (Evt.pos (by omega) (Evt.pos (by omega) ?_)))
    rw [Ints.rd_get M i hlt]
    refine ins_loop M[i] out M c _ (i : Int) _ (by omega) (by omega) ?_ out.length 0 (by omega) (fun t ht => by omega)
    have h := ih (i + 1) (insI M[i] out) (by omega) ?_ (insI_sorted _ _ hs)
    · rw [show ((i + 1 : Nat) : Int) = (i : Int) + 1 by omega] at h
      exact h
    · refine (insI_perm _ _).trans ?_
      rw [List.take_succ_eq_append_getElem hlt]
      exact hp.append_right _

theorem cut_cases (t p : ByteArray) : (t.size > p.size ∧ cut t p = t.extract 0 p.size) ∨ (¬ t.size > p.size ∧ cut t p = t) := by
  unfold cut
  by_cases h : t.size > p.size
  · exact .inl ⟨h, if_pos h⟩
  · exact .inr ⟨h, if_neg h⟩
theorem mid_f (lo hi : Nat) (h : lo + hi ≤ 1048576) : wrap64 (Int.tdiv (wrap64 ((lo : Int) + (hi : Int))) 2) = (((lo + hi) / 2 : Nat) : Int) := by
  rw [w64 (n := (lo : Int) + (hi : Int)) (by omega) (by omega), Int.tdiv_eq_ediv_of_nonneg (by omega), w64 (by omega) (by omega)]
  omega
theorem rd_nat {s : ByteArray} {l : List Int} (hw : Within s l) (m : Nat) (hm : m < l.length) : ∃ x : Nat, rd l (m : Int) = (x : Int) ∧ x ≤ s.size := by
  obtain ⟨a1, a2, _⟩ := within_get hw m hm
  exact ⟨(rd l (m : Int)).toNat, by omega, by omega⟩
theorem loop0 (s p : ByteArray) (l : List Int) (hw : Within s l) (hl : l.length ≤ 120) (R : List Int × Int × Bool) (F : Nat × Nat) (hF : F.1 ≤ l.length ∧ F.2 ≤ l.length)
    (hR : Evt (fun k => spec_FindIn.l1 k s l p ((F.2 : Nat) : Int) ((F.1 : Nat) : Int) ((F.1 : Nat) : Int) (l.length : Int)) R) :
    ∀ (n lo hi c : Nat), hi - lo ≤ n → lo ≤ hi → hi ≤ l.length → c + (hi - lo) ≤ l.length → hv (less2 s p l) (hi - lo) lo hi c = F → Evt (fun k => spec_FindIn.l0 k s l p (c : Int) (lo : Int) (hi : Int)) R := by
  intro n
  induction n with
  | zero =>
    intro lo hi c hn h1 h2 h3 h4
    rw [hv_done _ _ _ _ _ (by omega)] at h4
    subst h4
    exact Evt.step (fun k => spec_FindIn.l0.eq_2 _ _ _ _ _ _ k) (Evt.neg (by omega) hR)
  | succ n ih =>
    intro lo hi c hn h1 h2 h3 h4
    by_cases hlt : lo < hi
    · obtain ⟨x, hx, hxs⟩ := rd_nat hw ((lo + hi) / 2) (by omega)
      have hst := hv_step (less2 s p l) lo hi c hlt
      rw [h4] at hst
      have hless : less2 s p l ((lo + hi) / 2) = ltS (suf s x) p := by unfold less2; rw [hx, Int.toNat_natCast]
      refine Evt.step (fun k => spec_FindIn.l0.eq_2 _ _ _ _ _ _ k) (Evt.pos (by omega) ?_)
      rw [mid_f lo hi (by omega)]
      refine Evt.pos (by omega) (Evt.pos (by omega) ?_)
      rw [hx]
      clear hx
      refine Evt.pos (by omega) (Evt.pos (by omega) ?_)
      rw [w64 (n := (c : Int) + 1) (by omega) (by omega), show (c : Int) + 1 = ((c + 1 : Nat) : Int) by omega, Int.toNat_natCast, show s.extract x s.size = suf s x from rfl]
      by_cases hb : ltS (suf s x) p = true
      · rw [if_pos (by rw [hless]; exact hb)] at hst
        refine Evt.pos hb ?_
        rw [w64 (n := (((lo + hi) / 2 : Nat) : Int) + 1) (by omega) (by omega), show (((lo + hi) / 2 : Nat) : Int) + 1 = (((lo + hi) / 2 + 1 : Nat) : Int) by omega]
        exact ih _ _ _ (by omega) (by omega) h2 (by omega) hst.symm
      · rw [if_neg (by rw [hless]; exact hb)] at hst
        refine Evt.neg hb ?_
        exact ih _ _ _ (by omega) (by omega) (by omega) (by omega) hst.symm
    · rw [hv_done _ _ _ _ _ hlt] at h4
      subst h4
      exact Evt.step (fun k => spec_FindIn.l0.eq_2 _ _ _ _ _ _ k) (Evt.neg (by omega) hR)
theorem loop1 (s p : ByteArray) (l : List Int) (hw : Within s l) (hl : l.length ≤ 120) (hp : p.size ≤ 120) (R : List Int × Int × Bool) (fr0 : Nat) (F : Nat × Nat) (hF : F.1 ≤ l.length ∧ fr0 ≤ F.1)
    (hR : Evt (fun k => spec_FindIn.l2 k ((F.2 : Nat) : Int) [] ((l.take F.1).drop fr0) (((l.take F.1).drop fr0).length : Int) 0) R) :
    ∀ (n lo hi c : Nat), hi - lo ≤ n → lo ≤ hi → hi ≤ l.length → c ≤ 1000 - (hi - lo) → hi - lo ≤ 500 → hv (less3 s p l) (hi - lo) lo hi c = F → Evt (fun k => spec_FindIn.l1 k s l p (c : Int) (lo : Int) (fr0 : Int) (hi : Int)) R := by
  intro n
  have hend : ∀ lo hi c : Nat, ¬ lo < hi → hv (less3 s p l) (hi - lo) lo hi c = F → Evt (fun k => spec_FindIn.l1 k s l p (c : Int) (lo : Int) (fr0 : Int) (hi : Int)) R := by
    intro lo hi c hlt h4
    rw [hv_done _ _ _ _ _ hlt] at h4
    subst h4
    refine Evt.step (fun k => spec_FindIn.l1.eq_2 _ _ _ _ _ _ _ k) (Evt.neg (by omega) (Evt.pos (by omega) (Evt.pos (by have := hF.2; simp only at this; omega) (Evt.pos (by have := hF.1; simp only at this; omega) ?_))))
    rw [Int.toNat_natCast, Int.toNat_natCast]
    exact hR
  induction n with
  | zero =>
    intro lo hi c hn h1 h2 h3 h5 h4
    exact hend lo hi c (by omega) h4
  | succ n ih =>
    intro lo hi c hn h1 h2 h3 h5 h4
    by_cases hlt : lo < hi
    · obtain ⟨x, hx, hxs⟩ := rd_nat hw ((lo + hi) / 2) (by omega)
      have hst := hv_step (less3 s p l) lo hi c hlt
      rw [h4] at hst
      have hless : less3 s p l ((lo + hi) / 2) = !(ltS p (cut (suf s x) p)) := by unfold less3; rw [hx, Int.toNat_natCast]
      refine Evt.step (fun k => spec_FindIn.l1.eq_2 _ _ _ _ _ _ _ k) (Evt.pos (by omega) ?_)
      rw [mid_f lo hi (by omega)]
      refine Evt.pos (by omega) (Evt.pos (by omega) ?_)
      rw [hx]
      clear hx
      refine Evt.pos (by omega) (Evt.pos (by omega) ?_)
      rw [w64 (n := (c : Int) + 1) (by omega) (by omega), show (c : Int) + 1 = ((c + 1 : Nat) : Int) by omega, Int.toNat_natCast, show s.extract x s.size = suf s x from rfl]
      rw [w64 (n := (((lo + hi) / 2 : Nat) : Int) + 1) (by omega) (by omega), show (((lo + hi) / 2 : Nat) : Int) + 1 = (((lo + hi) / 2 + 1 : Nat) : Int) by omega]
      have yes : ltS p (cut (suf s x) p) = true → Evt (fun k => spec_FindIn.l1 k s l p ((c + 1 : Nat) : Int) (lo : Int) (fr0 : Int) (((lo + hi) / 2 : Nat) : Int)) R := by
        intro hb
        rw [if_neg (by rw [hless, hb]; decide)] at hst
        exact ih _ _ _ (by omega) (by omega) (by omega) (by omega) (by omega) hst.symm
      have no : ¬ ltS p (cut (suf s x) p) = true → Evt (fun k => spec_FindIn.l1 k s l p ((c + 1 : Nat) : Int) (((lo + hi) / 2 + 1 : Nat) : Int) (fr0 : Int) (hi : Int)) R := by
        intro hb
        rw [if_pos (by rw [hless, Bool.eq_false_iff.2 hb]; rfl)] at hst
        exact ih _ _ _ (by omega) (by omega) (by omega) (by omega) (by omega) hst.symm
      rcases cut_cases (suf s x) p with ⟨hc1, hc2⟩ | ⟨hc1, hc2⟩
      · rw [hc2] at yes no
        refine Evt.pos (by omega) (Evt.pos (by omega) (Evt.pos (by omega) ?_))
        by_cases hb : ltS p ((suf s x).extract 0 p.size) = true
        · exact Evt.pos hb (yes hb)
        · exact Evt.neg hb (no hb)
      · rw [hc2] at yes no
        refine Evt.neg (by omega) ?_
        by_cases hb : ltS p (suf s x) = true
        · exact Evt.pos hb (yes hb)
        · exact Evt.neg hb (no hb)
    · exact hend lo hi c hlt h4
theorem specFind_ev (s : ByteArray) (l : List Int) (p : ByteArray) (hll : l.length ≤ 1048576) : Evt (fun k => spec_FindIn.f k s l p) (ansFind s l p) := by
  have bad : Evt (fun k => spec_FindIn.j0 k s l p true) (([] : List Int), (0 : Int), false) := Evt.step (fun k => spec_FindIn.j0.eq_2 _ _ _ _ k) (Evt.pos rfl (Evt.const _))
  unfold spec_FindIn.f ansFind
  refine Evt.bind (specIs_ev s l hll) ?_
  rw [Rk.in_f]
  by_cases h1 : s.size ≤ 120 ∧ l = sufs s
  · refine Evt.pos (by simpa using h1) (Evt.bsome ?_)
    have hw : Within s l := by rw [h1.2]; exact sufs_within s
    have hl : l.length ≤ 120 := by rw [h1.2, sufs_len]; exact h1.1
    by_cases h2 : 1 ≤ p.size ∧ p.size ≤ 120
    · rw [if_pos (by unfold okF; exact decide_eq_true ⟨h1, h2⟩)]
      rw [decide_eq_true (show 1 ≤ (p.size : Int) ∧ (p.size : Int) ≤ 120 by omega)]
      have hfb := hv_bound (less2 s p l) (l.length - 0) 0 l.length 0 (Nat.zero_le _)
      have hfb2 : (fr s p l).1 ≤ l.length ∧ (fr s p l).2 ≤ l.length := ⟨hfb.2.1, by have := hfb.2.2; unfold fr; omega⟩
      have htb := hv_bound (less3 s p l) (l.length - (fr s p l).1) (fr s p l).1 l.length (fr s p l).2 hfb2.1
      refine Evt.step (fun k => spec_FindIn.j0.eq_2 _ _ _ _ k) (Evt.neg (by simp) ?_)
      refine loop0 s p l hw hl _ (fr s p l) hfb2 ?_ l.length 0 l.length 0 (by omega) (by omega) (Nat.le_refl _) (by omega) rfl
      refine loop1 s p l hw hl h2.2 _ (fr s p l).1 (tt s p l) ⟨htb.2.1, htb.1⟩ ?_ l.length (fr s p l).1 l.length (fr s p l).2 (by omega) hfb2.1 (Nat.le_refl _) (by omega) (by omega) rfl
      exact sort_loop (mid s p l) _ (by unfold mid; simp; omega) (mid s p l).length 0 [] (by omega) (by simp) List.Pairwise.nil
    · rw [if_neg (by unfold okF; simp; omega), decide_eq_false (show ¬ (1 ≤ (p.size : Int) ∧ (p.size : Int) ≤ 120) by omega)]
      exact bad
  · rw [if_neg (by unfold okF; rw [decide_eq_true_eq]; exact fun h => h1 h.1)]
    exact Evt.neg (by simpa using h1) bad
theorem ansFind_len (s : ByteArray) (l : List Int) (p : ByteArray) : (ansFind s l p).1.length ≤ 120 := by
  unfold ansFind
  by_cases h : okF s l p = true
  · rw [if_pos h]
    have h2 := of_decide_eq_true h
    have hl : l.length ≤ 120 := by rw [h2.1.2, sufs_len]; exact h2.1.1
    show (srt (mid s p l)).length ≤ 120
    unfold srt mid
    rw [List.length_mergeSort]
    simp
    omega
  · rw [if_neg h]
    simp
end Go.Proofs.Ytppmigiknidjhaa.Fi
end

section
/- The law FnExactFindIn returns true at every text, list and text. No conditions. -/
namespace Go.Proofs.Ytppmigiknidjhaa.Pure
open Go.RowKit Go.Proofs.Ytppmigiknidjhaa.PQ Go.Proofs.YtppmigiknidjhaaW.PrintWords Go.Proofs.YtppmigiknidjhaaW.PrintLast Go.Proofs.Ytppmigiknidjhaa.Pre Go.Proofs.Ytppmigiknidjhaa.Fi
theorem FnExactFindIn : laws_FnExactFindIn.Pure := by
  intro s l p _ _ _ _ _
  refine Evt.ex (r := true) ?_
  unfold laws_FnExactFindIn.f
  by_cases hs : s.size ≤ 1048576
  · refine Evt.neg (by omega) ?_
    by_cases hl : l.length ≤ 1048576
    · refine Evt.neg (by omega) ?_
      by_cases hp : p.size ≤ 1048576
      · have ht := Ints.to_ev l hl
        have hc := ansFind_len s l p
        have he := Ints.eq_self (ansFind s l p).1 (by omega)
        have hh := Ints.held_ev (ansFind s l p).1.length 1 (by omega) (by omega)
        refine Evt.neg (by omega) (Evt.bind ht (Evt.bind (specFind_ev s l p hl) (Evt.bind ht (Evt.bsome (Evt.bind he (Evt.pos rfl (Evt.pos rfl ?_)))))))
        refine Evt.step (fun k => laws_FnExactFindIn.j0.eq_2 _ _ _ _ _ _ _ _ _ _ _ k) (Evt.neg (by simp) (Evt.bind ht (Evt.bind (Ints.eq_self l hl) (Evt.pos rfl (Evt.bind (Ints.mark_ev l 1 (by omega) hl) (Evt.neg (by omega) (Evt.bind he (Evt.pos rfl (Evt.pos rfl ?_)))))))))
        refine Evt.step (fun k => laws_FnExactFindIn.j1.eq_2 _ _ _ _ _ _ _ _ k) (Evt.neg (by simp) (Evt.bind (Ints.mark_ev _ 1 (by omega) (by omega)) (Evt.bind hh (Evt.neg (by omega) (Evt.pos rfl (Evt.bind ht (Evt.bsome (Evt.bind he (Evt.pos rfl (Evt.pos rfl ?_))))))))))
        exact Evt.step (fun k => laws_FnExactFindIn.j2.eq_2 _ _ _ k) (Evt.neg (by simp) (Evt.bind hh (Evt.neg (by omega) (Evt.pos rfl (Evt.const _)))))
      · exact Evt.pos (by omega) (Evt.const _)
    · exact Evt.pos (by omega) (Evt.const _)
  · exact Evt.pos (by omega) (Evt.const _)
end Go.Proofs.Ytppmigiknidjhaa.Pure
end

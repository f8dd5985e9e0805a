/- Several texts in one: what the claim's last text rests on. No conditions. -/
import Derived.Test.YtcngebfcpobnnaaMRo15
import Derived.Test.YtcngebfcpobnnaaMRo13
import Derived.Test.YtcngebfcpobnnaaMRo17
import Derived.Test.YtcngebfcpobnnaaMRo12
import Derived.Test.YtcngebfcpobnnaaMRo8
import Derived.Test.YtcngebfcpobnnaaMRo7
section
namespace Go.Proofs.Ytcngebfcpobnnaa.Rx
set_option linter.unusedVariables false
set_option linter.unusedSimpArgs false
open Go.RowKit Go.Proofs.Ytcngebfcpobnnaa.PQ Go.Proofs.YtcngebfcpobnnaaW.PrintWords Go.Proofs.YtcngebfcpobnnaaW.PrintLast Go.Proofs.Ytcngebfcpobnnaa.Pre Go.Proofs.Ytcngebfcpobnnaa.CmpL Go.Proofs.Ytcngebfcpobnnaa.Com Go.Proofs.Ytcngebfcpobnnaa.Sml Go.Proofs.Ytcngebfcpobnnaa.SrE
def notN (s : ByteArray) : Bool := !isN s
def root : Eg := ⟨⟨#[]⟩, false, -1⟩
/-- The tree of rising names. -/
def tree (l : List ByteArray) : List Eg := bld (left l 0) l 0 0 [root]
def ansRad (l : List ByteArray) : List Eg × Bool := if l.length ≤ 40 ∧ l.any notN = false ∧ l.Nodup then (tree (srt l), true) else ([], false)
/-- Names that rise. -/
structure Names (l : List ByteArray) : Prop where
 rise : l.Pairwise (fun a b => ltS a b = true)
 each : ∀ n ∈ l, isN n = true
theorem Names.ok {l : List ByteArray} (h : Names l) : Ok l 0 :=
 ⟨h.rise, fun n hn => (isN_size (h.each n hn)).1, fun n hn m hm => by
  apply Byt.bytesOf_inj
  rw [Byt.bytesOf_take, Byt.bytesOf_take]
  rfl⟩
theorem Names.size {l : List ByteArray} (h : Names l) : ∀ n ∈ l, n.size ≤ 20 := fun n hn => (isN_size (h.each n hn)).2.1
theorem Names.left {l : List ByteArray} (h : Names l) : left l 0 ≤ 20 * l.length := by
 have hs := h.size
 clear h
 induction l with
 | nil => exact Nat.zero_le _
 | cons a l ih =>
  have h1 := hs a List.mem_cons_self
  have h2 := ih (fun n hn => hs n (List.mem_cons_of_mem _ hn))
  rw [left_cons, List.length_cons]
  omega
theorem tree_len {l : List ByteArray} (h : Names l) : 1 ≤ (tree l).length ∧ (tree l).length ≤ 1 + 2 * l.length := by
 obtain ⟨E, h1, h2⟩ := bld_len (Rx.left l 0) l 0 0 [root] h.ok (Nat.le_refl _) (by simp)
 unfold tree
 rw [h1, List.length_append, List.length_singleton]
 omega
theorem impl_tree {l : List ByteArray} (h : Names l) (hl : l.length ≤ 1000) : Evt (fun k => impl_radixOf.f k l) (tree l) := by
 have h2 := h.left
 unfold impl_radixOf.f
 refine Evt.bind (Evt.step (fun k => impl_grow.f.eq_2 _ _ _ _ k) (grow_ev (Rx.left l 0) l 0 0 [root] h.ok (Nat.le_refl _) (fun n hn => by have := h.size n hn; omega) (by simp) (by simp; omega))) (Evt.const _)
theorem sufs_0 (l : List ByteArray) : sufs l 0 = l := by
 unfold sufs
 conv => rhs; rw [← List.map_id l]
 exact List.map_congr_left (fun n _ => suf_0 n)
theorem spec_tree {l : List ByteArray} (h : Names l) (hl : l.length ≤ 1000) : Evt (fun k => spec_l13Radix.f k l) (tree l) := by
 have h2 := h.left
 have hb := spec_ev (Rx.left l 0) l 0 0 [root] h.ok (Nat.le_refl _) (fun n hn => by have := h.size n hn; omega) (by simp) (by simp; omega)
 rw [sufs_0] at hb
 unfold spec_l13Radix.f
 have hj : Evt (fun k => spec_l13Build.j0 k l [] 0 false ⟨#[]⟩ false (-1)) (tree l) :=
  Evt.step (fun k => spec_l13Build.j0.eq_2 _ _ _ _ _ _ _ k) (Evt.neg (by simp) (Evt.step (fun k => spec_l13Build.j1.eq_2 _ _ _ _ _ _ k) (Evt.pos (by simp) hb)))
 have hm : Evt (fun k => spec_l13Build.f k l (⟨#[]⟩ : ByteArray) (-1) ([] : List Eg)) (tree l) := by
  refine Evt.step (fun k => spec_l13Build.f.eq_2 _ _ _ _ k) ?_
  by_cases h0 : 0 < l.length
  ·
   have e0 : rdOf ByteArray.empty l 0 = l[0] := rd_str l 0 h0
   have e1 : (l[0].toList == ([] : List UInt8)) = false := by
    rw [beq_eq_false_iff_ne, ne_eq, Byt.toList_nil_iff]
    have := (isN_size (h.each _ (List.getElem_mem h0))).1
    omega
   refine Evt.pos (by omega) (Evt.pos (by omega) ?_)
   rw [e0, e1]
   exact hj
  ·
   exact Evt.neg (by omega) hj
 first | exact Evt.bind hm (Evt.const _) | exact hm
def memN (l : List ByteArray) (s : ByteArray) : Bool := l.any (fun y => decide (y = s))
theorem memN_iff {l : List ByteArray} {s : ByteArray} : memN l s = true ↔ s ∈ l := by
 unfold memN
 rw [List.any_eq_true]
 constructor
 ·
  rintro ⟨y, hy, e⟩
  exact of_decide_eq_true e ▸ hy
 ·
  intro h
  exact ⟨s, h, decide_eq_true rfl⟩
/-- The place of a name among rising ones. -/
def putN (l : List ByteArray) (s : ByteArray) : List ByteArray × Bool :=
 if memN l s = true then (l, false) else (l.takeWhile (fun n => ltS n s) ++ s :: l.dropWhile (fun n => ltS n s), true)
theorem put_ev (l : List ByteArray) (s : ByteArray) (hl : l.length ≤ 1048576) (hr : l.Pairwise (fun a b => ltS a b = true)) : Evt (fun k => spec_l13Put.f k l s) (putN l s) := by
 unfold spec_l13Put.f
 have hs := take_drop_tw (fun n => ltS n s) l
 have hd := drop_tw (fun n => ltS n s) l
 obtain ⟨T, hT⟩ : ∃ T, T = l.takeWhile (fun n => ltS n s) := ⟨_, rfl⟩
 have hTl : T.length ≤ l.length := by rw [hT]; exact (List.takeWhile_sublist _).length_le
 have htk : l.take T.length = T := by
  conv => lhs; rw [← hs]
  rw [← hT, List.take_left]
 rw [← hT] at hs hd
 have hat : ∀ i (h : i < T.length), ltS (l[i]'(by omega)) s = true := fun i h => by
  have e : l[i]'(by omega) = T[i] := by
   have : l[i]? = T[i]? := by
    conv => lhs; rw [← hs]
    rw [List.getElem?_append_left h]
   rw [List.getElem?_eq_getElem (by omega), List.getElem?_eq_getElem h] at this
   exact Option.some.inj this
  rw [e]
  have := List.all_takeWhile (p := fun n => ltS n s) (l := l)
  rw [← hT, List.all_eq_true] at this
  exact this _ (List.getElem_mem h)
 have hend : ∀ (h : T.length < l.length), ltS l[T.length] s = false := fun h => by
  have := List.head?_dropWhile_not (fun n => ltS n s) l
  rw [← hd] at this
  have e : (l.drop T.length).head? = some l[T.length] := by
   rw [List.head?_drop, List.getElem?_eq_getElem h]
  rw [e] at this
  simpa using this
 have hmem : s ∈ l ↔ ∃ h : T.length < l.length, l[T.length] = s := by
  constructor
  ·
   intro hm
   obtain ⟨i, hi, e⟩ := List.getElem_of_mem hm
   rcases Nat.lt_trichotomy i T.length with h | h | h
   ·
    have := hat i h
    rw [e, ltS_irrefl] at this
    cases this
   ·
    subst h
    exact ⟨hi, e⟩
   ·
    have h1 := hend (by omega)
    have h2 := List.pairwise_iff_getElem.1 hr T.length i (by omega) hi h
    rw [e] at h2
    rw [h2] at h1
    cases h1
  ·
   rintro ⟨h, e⟩
   rw [← e]
   exact List.getElem_mem h
 have hput : ∀ (hn : s ∉ l), Evt (fun k => if 0 ≤ (T.length : Int) then (if (T.length : Int) ≤ (l.length : Int) then ((some (l.take (T.length : Int).toNat : List ByteArray)).bind fun y121 => (if ([] : List ByteArray).length + y121.length < 8796093022208 then ((some (([] : List ByteArray) ++ y121 : List ByteArray)).bind fun y125 => (if y125.length < 8796093022208 then ((some (y125 ++ [s] : List ByteArray)).bind fun y128 => ((some (l.drop (T.length : Int).toNat : List ByteArray)).bind fun y131 => (if y128.length + y131.length < 8796093022208 then some ((y128 ++ y131), true) else none))) else none)) else none)) else none) else none) (putN l s) := fun hn => by
  refine Evt.pos (by omega) (Evt.pos (by omega) (Evt.bsome ?_))
  rw [Int.toNat_natCast, htk]
  refine Evt.pos (by simp; omega) (Evt.bsome (Evt.pos (by simp; omega) (Evt.bsome (Evt.bsome (Evt.pos (by simp; omega) ((Evt.const _).eq ?_))))))
  unfold putN
  rw [if_neg (fun h => hn (memN_iff.1 h)), ← hT, hd]
  simp
 have key : ∀ (m i : Nat), i + m = T.length → Evt (fun k => spec_l13Put.l0 k l s (i : Int)) (putN l s) := by
  intro m
  induction m with
  | zero =>
   intro i hi
   obtain rfl : i = T.length := by omega
   refine Evt.step (fun k => spec_l13Put.l0.eq_2 _ _ _ k) ?_
   by_cases h : T.length < l.length
   ·
    have h1 := hend h
    refine Evt.pos (by omega) (Evt.pos (by omega) ?_)
    rw [rd_str l T.length h]
    refine Evt.neg (by show ¬ ltS _ _ = true; rw [h1]; decide) ?_
    by_cases he : l[T.length] = s
    ·
     refine Evt.pos (by rw [he]) ((Evt.const _).eq ?_)
     unfold putN
     rw [if_pos (memN_iff.2 (hmem.2 ⟨h, he⟩))]
    ·
     refine Evt.neg (fun e => he (Byt.toList_inj e)) ?_
     have hp := hput (fun hm => by obtain ⟨_, e⟩ := hmem.1 hm; exact he e)
     obtain ⟨K, hK⟩ := hp
     refine ⟨K, fun k hk => ?_⟩
     have := hK k hk
     rw [if_pos (by omega : (0 : Int) ≤ (T.length : Int))] at this
     exact this
   ·
    exact Evt.neg (by omega) (hput (fun hm => by obtain ⟨h2, _⟩ := hmem.1 hm; exact h h2))
  | succ m ih =>
   intro i hi
   refine Evt.step (fun k => spec_l13Put.l0.eq_2 _ _ _ k) (Evt.pos (by omega) (Evt.pos (by omega) ?_))
   rw [rd_str l i (by omega), w64 (n := (i : Int) + 1) (by omega) (by omega)]
   exact Evt.pos (hat i (by omega)) (ih (i + 1) (by omega))
 exact key T.length 0 (by omega)
theorem put_rise {l : List ByteArray} {s : ByteArray} (hr : l.Pairwise (fun a b => ltS a b = true)) (hn : s ∉ l) :
  (l.takeWhile (fun n => ltS n s) ++ s :: l.dropWhile (fun n => ltS n s)).Pairwise (fun a b => ltS a b = true) ∧ (l.takeWhile (fun n => ltS n s) ++ s :: l.dropWhile (fun n => ltS n s)).Perm (s :: l) := by
 have hs : l.takeWhile (fun n => ltS n s) ++ l.dropWhile (fun n => ltS n s) = l := List.takeWhile_append_dropWhile
 have hall := List.all_takeWhile (p := fun n => ltS n s) (l := l)
 have hhd := List.head?_dropWhile_not (fun n => ltS n s) l
 generalize l.takeWhile (fun n => ltS n s) = T at *
 generalize l.dropWhile (fun n => ltS n s) = D at *
 rw [List.all_eq_true] at hall
 refine ⟨?_, ?_⟩
 ·
  rw [← hs] at hr
  have hr2 := List.pairwise_append.1 hr
  have hD : ∀ b ∈ D, ltS s b = true := by
   cases D with
   | nil => intro b hb; cases hb
   | cons d D =>
    have hd : ltS d s = false := by simpa using hhd
    have hds : ltS s d = true := by
     cases h : ltS s d with
     | true => rfl
     | false =>
      have e := ltS_tri hd h
      exact absurd (by rw [← hs, ← e]; simp) hn
    intro b hb
    rcases List.mem_cons.1 hb with rfl | hb
    ·
     exact hds
    ·
     exact ltS_trans hds ((List.pairwise_cons.1 hr2.2.1).1 b hb)
  refine List.pairwise_append.2 ⟨hr2.1, List.pairwise_cons.2 ⟨hD, hr2.2.1⟩, fun a ha b hb => ?_⟩
  rcases List.mem_cons.1 hb with rfl | hb
  ·
   exact hall a ha
  ·
   exact hr2.2.2 a ha b hb
 ·
  conv => rhs; rw [← hs]
  exact List.perm_middle
theorem rise_unique {a b : List ByteArray} (h : a.Perm b) (ha : a.Pairwise (fun a b => ltS a b = true)) (hb : b.Pairwise (fun a b => ltS a b = true)) : a = b :=
 h.eq_of_pairwise (fun x y _ _ h1 h2 => by have := ltS_asymm h1; rw [h2] at this; cases this) ha hb
theorem leB_tri (a b : ByteArray) : (leB a b || leB b a) = true := by
 unfold leB
 cases h : ltS b a with
 | false => rfl
 | true => rw [ltS_asymm h]; rfl
theorem leB_trans (a b c : ByteArray) (h1 : leB a b = true) (h2 : leB b c = true) : leB a c = true := by
 unfold leB at *
 simp only [Bool.not_eq_true'] at *
 exact ltS_ntrans h2 h1
theorem srt_perm (l : List ByteArray) : (srt l).Perm l := List.mergeSort_perm _ _
theorem srt_rise {l : List ByteArray} (h : l.Nodup) : (srt l).Pairwise (fun a b => ltS a b = true) := by
 have h1 : (srt l).Pairwise (fun a b => leB a b = true) := List.pairwise_mergeSort (fun a b c => leB_trans a b c) leB_tri l
 have h2 : (srt l).Nodup := (srt_perm l).nodup_iff.2 h
 refine (h1.and h2).imp ?_
 rintro a b ⟨h3, h4⟩
 unfold leB at h3
 simp only [Bool.not_eq_true'] at h3
 cases h5 : ltS a b with
 | true => rfl
 | false => exact absurd (ltS_tri h5 h3) h4
theorem names_srt {l : List ByteArray} (hn : l.any notN = false) (h : l.Nodup) : Names (srt l) :=
 ⟨srt_rise h, fun n hm => by
  rw [List.any_eq_false] at hn
  have := hn n ((srt_perm l).mem_iff.1 hm)
  unfold notN at this
  simpa using this⟩
theorem specRad_ev (l : List ByteArray) (hl : l.length ≤ 1048576 ∧ ∀ s ∈ l, s.size ≤ 1048576) : Evt (fun k => spec_RadixOf.f k l) (ansRad l) := by
 unfold spec_RadixOf.f
 have key : ∀ (m i : Nat) (x : List ByteArray), i + m = l.length → x.Perm (l.take i) → Names x → (l.take i).Nodup → (l.take i).any notN = false → Evt (fun k => spec_RadixOf.l0 k x l (l.length : Int) (i : Int)) (ansRad l) := by
  intro m
  induction m with
  | zero =>
   intro i x hi hp hn hd ha
   rw [List.take_of_length_le (by omega)] at hp hd ha
   refine Evt.step (fun k => spec_RadixOf.l0.eq_2 _ _ _ _ k) (Evt.neg (by omega) ?_)
   have hx : x = srt l := rise_unique (hp.trans (srt_perm l).symm) hn.rise (srt_rise hd)
   have hxl := hp.length_eq
   unfold ansRad
   by_cases h40 : l.length ≤ 40
   ·
    rw [if_pos ⟨h40, ha, hd⟩]
    refine Evt.neg (by omega) (Evt.bind (spec_tree hn (by omega)) ((Evt.const _).eq ?_))
    rw [hx]
   ·
    rw [if_neg (fun h => h40 h.1)]
    exact Evt.pos (by omega) (Evt.const _)
  | succ m ih =>
   intro i x hi hp hn hd ha
   have hlt : i < l.length := by omega
   have hts : l.take (i + 1) = l.take i ++ [l[i]] := List.take_succ_eq_append_getElem hlt
   have hxl := hp.length_eq
   rw [List.length_take] at hxl
   have hsub : List.Sublist (l.take (i + 1)) l := List.take_sublist _ _
   refine Evt.step (fun k => spec_RadixOf.l0.eq_2 _ _ _ _ k) (Evt.pos (by omega) (Evt.pos (by omega) (Evt.pos (by omega) ?_)))
   rw [rd_str l i hlt, w64 (n := (i : Int) + 1) (by omega) (by omega)]
   refine Evt.bind (put_ev x l[i] (by omega) hn.rise) ?_
   by_cases hm : l[i] ∈ x
   ·
    have e1 : putN x l[i] = (x, false) := by unfold putN; rw [if_pos (memN_iff.2 hm)]
    rw [e1]
    refine Evt.neg (by simp) ((Evt.const _).eq ?_)
    unfold ansRad
    rw [if_neg (fun h => by
     have := h.2.2.sublist hsub
     rw [hts, List.nodup_append] at this
     exact this.2.2 _ (hp.mem_iff.1 hm) _ (by simp) rfl)]
   ·
    have e1 : putN x l[i] = (x.takeWhile (fun n => ltS n l[i]) ++ l[i] :: x.dropWhile (fun n => ltS n l[i]), true) := by unfold putN; rw [if_neg (fun h => hm (memN_iff.1 h))]
    rw [e1]
    refine Evt.pos rfl (Evt.bind (spec_name _ (hl.2 _ (List.getElem_mem hlt))) ?_)
    obtain ⟨p1, p2⟩ := put_rise hn.rise hm
    by_cases hN : isN l[i] = true
    ·
     refine Evt.pos hN (ih (i + 1) _ (by omega) ?_ ⟨p1, fun n hn' => ?_⟩ ?_ ?_)
     ·
      rw [hts]
      exact p2.trans ((List.Perm.cons _ hp).trans (List.perm_append_singleton _ _).symm)
     ·
      rcases List.mem_cons.1 (p2.mem_iff.1 hn') with rfl | hn'
      ·
       exact hN
      ·
       exact hn.each n hn'
     ·
      rw [hts, List.nodup_append]
      refine ⟨hd, by simp, fun a ha' b hb e => ?_⟩
      rw [List.mem_singleton.1 hb] at e
      exact hm (hp.mem_iff.2 (e ▸ ha'))
     ·
      rw [hts, List.any_append, ha]
      unfold notN
      simp [hN]
    ·
     refine Evt.neg hN ((Evt.const _).eq ?_)
     unfold ansRad
     rw [if_neg (fun h => by
      have := List.any_eq_false.1 h.2.1 l[i] (List.getElem_mem hlt)
      unfold notN at this
      rw [Bool.eq_false_iff.2 hN] at this
      exact this rfl)]
 exact key l.length 0 [] (by omega) (by simp) ⟨List.Pairwise.nil, fun _ h => by cases h⟩ (by simp) (by simp)
theorem ansRad_len (l : List ByteArray) : (ansRad l).1.length ≤ 81 := by
 unfold ansRad
 split
 ·
  rename_i h
  have := tree_len (names_srt h.2.1 h.2.2)
  have h2 := srt_len l
  show (tree (srt l)).length ≤ 81
  omega
 ·
  exact Nat.zero_le _
end Go.Proofs.Ytcngebfcpobnnaa.Rx
end

section
namespace Go.Proofs.Ytcngebfcpobnnaa.Rad
set_option linter.unusedVariables false
set_option linter.unusedSimpArgs false
open Go.RowKit Go.Lib Go.Proofs.Ytcngebfcpobnnaa.PQ Go.Proofs.YtcngebfcpobnnaaW.PrintWords Go.Proofs.YtcngebfcpobnnaaW.PrintLast Go.Proofs.YtcngebfcpobnnaaW.PrintMore Go.Proofs.Ytcngebfcpobnnaa.Pre Go.Proofs.Ytcngebfcpobnnaa.Sml Go.Proofs.Ytcngebfcpobnnaa.SrE Go.Proofs.Ytcngebfcpobnnaa.Rx
theorem lit_calls (s : ByteArray) (w : World) (hs : s.size ≤ 1048576) : Calls Try.prog 41 #[.string s] w fun e w' => e = .returned (.bool (notN s)) ∧ Below w.heap.size w w' := by
 obtain ⟨k, hk⟩ := (impl_name s hs).ex
 have E := aM hk
 obtain ⟨b, hb⟩ : ∃ b, b = isN s := ⟨_, rfl⟩
 unfold notN
 rw [← hb] at E ⊢
 clear hk hb
 go_enter Try.func41, Try.ntmps41
 go_wp2_with (first | (go_at_call 42; go_loud ((with_reducible refine (impl_nameOK.calls k s b _ E.out).mono ?_); rintro e w2 ⟨rfl, hd⟩; have HB2 := aM hd.below; clear hd)))
 go_ret
 exact ⟨rfl, HB2.out⟩
theorem str_at {w : World} {A : Option Addr} {xs : List ByteArray} (h : Kd.C Kd.string w A xs.length xs) (i : Nat) (hi : i < xs.length) : ∃ ad, A = some ad ∧ w.cell? (ad.add i) = some (.string xs[i]) := by
 obtain ⟨ad, c, e, _, hK, hc0⟩ := Kd.C_get h ByteArray.empty (i : Int) (by omega) (by omega)
 rw [Int.toNat_natCast, List.getD_eq_getElem?_getD, List.getElem?_eq_getElem hi] at hK
 rw [Int.toNat_natCast] at hc0
 have hk : c = [.string xs[i]] := hK
 subst hk
 refine ⟨ad, e, ?_⟩
 have h1 := hc0 0 _ rfl
 rw [show Kd.string.sz = 1 from rfl, Nat.mul_one, Nat.add_zero] at h1
 exact h1
set_option maxHeartbeats 1000000 in
theorem index_calls (A : Option Addr) (c : Nat) (l : List ByteArray) (w : World) (hr : Kd.C Kd.string w A l.length l) (hl : l.length ≤ 1048576 ∧ ∀ s ∈ l, s.size ≤ 1048576) :
  Calls Try.prog 68 #[.slice A l.length c, .func (.func 41) #[] #[]] w fun e w' => ∃ r : Int, e = .returned (.int .i64 r) ∧ decide ((0 : Int) ≤ r) = l.any notN ∧ Below w.heap.size w w' := by
 have HR := aM hr
 have HL := aM hl
 have HL1 := aM hl.1
 clear hr hl
 go_enter Try.func68, Try.ntmps68
 go_wp2
 go_loopg [8] l.length (fun kq v8 w' => ∃ i : Nat, v8 = .int .i64 (i : Int) ∧ i ≤ l.length ∧ kq = l.length - i ∧ Aside0 ((l.take i).any notN = false) ∧ Aside0 (Below w.heap.size w w'))
 case atStart => exact ⟨0, rfl, by omega, by omega, ⟨by simp⟩, ⟨Below.refl _ _⟩⟩
 case round =>
  obtain ⟨i, rfl, hi, hk, HE, HB⟩ := hrel
  by_cases hlt : i < l.length
  ·
   have HI := aM hlt
   have p1 : (0 : Int) ≤ (i : Int) := by omega
   have q1 : (i : Int) < (l.length : Int) := by omega
   obtain ⟨ad, rfl, hx0⟩ := str_at HR.out i hlt
   replace hx0 := (HB.out.cell (World.block_lt_of_cell? w _ hx0)).trans hx0
   obtain ⟨x, hxe⟩ : ∃ x, x = l[i] := ⟨_, rfl⟩
   rw [← hxe] at hx0
   have HX : Aside0 (x.size ≤ 1048576) := ⟨by rw [hxe]; exact HL.out.2 _ (List.getElem_mem hlt)⟩
   have HT : Aside0 ((l.take (i + 1)).any notN = notN x) := ⟨by rw [List.take_succ_eq_append_getElem hlt, List.any_append, HE.out, ← hxe]; simp⟩
   have HM : Aside0 (notN x = true → l.any notN = true) := ⟨fun h => List.any_eq_true.2 ⟨x, by rw [hxe]; exact List.getElem_mem hlt, h⟩⟩
   clear hxe
   obtain ⟨b, hb⟩ : ∃ b, b = notN x := ⟨_, rfl⟩
   have HBB := aM hb
   clear hb
   cases b with
   | true =>
    go_wp2_with (first | (go_at_call 41; go_loud ((with_reducible refine (lit_calls x _ HX.out).mono ?_); rintro e w2 ⟨rfl, hb⟩; rw [← HBB.out]; have HB2 := aM (below_step HB.out hb); clear hb)))
    go_ret
    exact ⟨_, rfl, by rw [HM.out HBB.out.symm]; simp, HB2.out⟩
   | false =>
    go_wp2_with (first | (go_at_call 41; go_loud ((with_reducible refine (lit_calls x _ HX.out).mono ?_); rintro e w2 ⟨rfl, hb⟩; rw [← HBB.out]; have HB2 := aM (below_step HB.out hb); clear hb)))
    go_roundg (l.length - (i + 1))
    case measure => have := HI.out; omega
    case rel => exact ⟨i + 1, by have := HL1.out; have := HI.out; first | go_num | (rw [w64 (by omega) (by omega)]; go_num), by have := HI.out; omega, by omega, ⟨HT.out.trans HBB.out.symm⟩, HB2⟩
  ·
   obtain rfl : i = l.length := by omega
   go_wp2
   go_ret
   exact ⟨-1, rfl, by rw [show l.any notN = false from by have h_ := HE.out; rwa [List.take_length] at h_]; rfl, HB.out⟩
theorem contains_calls (A : Option Addr) (c : Nat) (l : List ByteArray) (w : World) (hr : Kd.C Kd.string w A l.length l) (hl : l.length ≤ 1048576 ∧ ∀ s ∈ l, s.size ≤ 1048576) :
  Calls Try.prog 40 #[.slice A l.length c, .func (.func 41) #[] #[]] w fun e w' => e = .returned (.bool (l.any notN)) ∧ Below w.heap.size w w' := by
 have HR := aM hr
 have HL := aM hl
 clear hr hl
 go_enter Try.func40, Try.ntmps40
 go_wp2_with (first | (go_at_call 68; go_loud ((with_reducible refine (index_calls A c l _ HR.out HL.out).mono ?_); rintro e w2 ⟨r, rfl, hr2, hb⟩; have HB2 := aM hb; clear hb)))
 go_ret
 exact ⟨rfl, HB2.out⟩
theorem srt_small {l : List ByteArray} (hl : l.length ≤ 1048576 ∧ ∀ s ∈ l, s.size ≤ 1048576) : (srt l).length ≤ 1048576 := by rw [srt_len]; exact hl.1
theorem keeps_at (xs : List ByteArray) (j : Nat) (hj : j + 1 < xs.length) : Go.Lib.keeps (xs.map (fun x : ByteArray => x.toList)).toArray (j + 1) = decide (xs[j + 1] ≠ xs[j]) := by
 unfold Go.Lib.keeps
 rw [getElem!_pos _ (j + 1) (by simpa using hj), Nat.add_sub_cancel, getElem!_pos _ j (by simp; omega)]
 simp only [List.getElem_toArray, List.getElem_map]
 rw [decide_eq_decide]
 constructor
 ·
  rintro (h | h) e
  ·
   cases h
  ·
   exact h (by rw [e])
 ·
  intro h
  exact .inr (fun e => h (Byt.toList_inj e))
theorem cc_full {xs : List ByteArray} (h : xs.Nodup) : (cc xs).length = xs.length := by
 unfold cc compactUpTo
 rw [List.length_map, List.filter_eq_self.2 ?_]
 ·
  simp
 ·
  intro j hj
  have hj : j < xs.length := by simpa using hj
  cases j with
  | zero => rfl
  | succ j =>
   rw [keeps_at xs j hj]
   exact decide_eq_true (fun e => List.pairwise_iff_getElem.1 h j (j + 1) (by omega) hj (by omega) e.symm)
theorem cc_less {xs : List ByteArray} (hs : xs.Pairwise (fun a b => leB a b = true)) (h : (cc xs).length = xs.length) : xs.Nodup := by
 unfold cc compactUpTo at h
 rw [List.length_map] at h
 have hall : ∀ j ∈ List.range (xs.map (fun x : ByteArray => x.toList)).toArray.size, Go.Lib.keeps (xs.map (fun x : ByteArray => x.toList)).toArray j = true := by
  refine List.length_filter_eq_length_iff.1 ?_
  rw [h]
  simp
 have hne : ∀ j (hj : j + 1 < xs.length), xs[j + 1] ≠ xs[j] := fun j hj => by
  have := hall (j + 1) (by simpa using hj)
  rw [keeps_at xs j hj] at this
  exact of_decide_eq_true this
 have hp := List.pairwise_iff_getElem.1 hs
 unfold List.Nodup
 rw [List.pairwise_iff_getElem]
 intro i j hi hj hij e
 obtain ⟨k, rfl⟩ : ∃ k, j = k + 1 := ⟨j - 1, by omega⟩
 have h1 := hp k (k + 1) (by omega) hj (by omega)
 refine hne k hj ?_
 by_cases hik : i = k
 ·
  subst hik
  exact e.symm
 ·
  have h2 := hp i k hi (by omega) (by omega)
  rw [e] at h2
  unfold leB at h1 h2
  simp only [Bool.not_eq_true'] at h1 h2
  exact CmpL.ltS_tri h1 h2
set_option maxHeartbeats 2000000 in
set_option maxRecDepth 100000 in
theorem radix_calls (A : Option Addr) (c : Nat) (l : List ByteArray) (w : World) (hr : Kd.C Kd.string w A l.length l) (hl : l.length ≤ 1048576 ∧ ∀ s ∈ l, s.size ≤ 1048576) :
  Calls Try.prog 14 #[.slice A l.length c] w fun e w' => ∃ v : Value, e = .returned (.tuple #[.agg #[v], .bool (ansRad l).2]) ∧ Kd.R k64 64 w' w.heap.size (fun _ => True) v (ansRad l).1 ∧ Below w.heap.size w w' := by
 have HC := aM hr
 have HL := aM hl
 have HB0 : Aside0 (Below w.heap.size w (w.alloc (.cells #[.slice none 0 0] 26))) := ⟨below_alloc (Below.refl _ _) _⟩
 have HSZ : Aside0 (w.heap.size ≤ (w.alloc (.cells #[.slice none 0 0] 26)).heap.size) := ⟨by simp⟩
 have HS0 : Aside0 (w.heap.size + 1 ≤ (w.alloc (.cells #[.slice none 0 0] 26)).heap.size) := ⟨by simp⟩
 have HR0 : Aside0 ((w.alloc (.cells #[.slice none 0 0] 26)).heap[w.heap.size]? = some (.cells #[.slice none 0 0] 26 (0, 0))) := ⟨by show (w.heap.push _)[w.heap.size]? = _; simp⟩
 by_cases h40 : l.length ≤ 40
 ·
  have hgt : decide ((l.length : Int) > 40) = false := decide_eq_false (by omega)
  obtain ⟨b, hb⟩ : ∃ b, b = l.any notN := ⟨_, rfl⟩
  have HBB := aM hb
  have H40 := aM h40
  cases b with
  | true =>
   rw [show ansRad l = ([], false) by unfold ansRad; rw [if_neg (fun h => by rw [h.2.1] at hb; cases hb)]]
   clear hr hl hb h40
   go_enter Try.func14, Try.ntmps14
   go_upto_region 2 with (first | (go_at_call 40; go_loud ((with_reducible refine (contains_calls A c l _ (Kd.C_below HC.out HB0.out) HL.out).mono ?_); rintro e w2 ⟨rfl, hb⟩; rw [← HBB.out]; have HR2 := aM ((hb.block w.heap.size (by simp)).trans HR0.out); have HB2 := aM (below_then HB0.out HSZ.out hb); have HS2 := aM (Nat.le_trans HS0.out hb.size); clear hb)))
   have cr : w2.cell? ⟨w.heap.size, 0, none⟩ = some (.slice none 0 0) := (blk_cell HR2.out 0).trans rfl
   have fr : w2.frozen? ⟨w.heap.size, 0, none⟩ = false := blk_frozen HR2.out 0
   go_wp2
   refine bodyPost_ret (results_ct rfl _ _ w.heap.size 26 #[.slice none 0 0] (0, 0) _ rfl (blk_put HR2.out 0 _ rfl) Try.underlying26 rfl (by kernel_rfl)) rfl ?_
   exact ⟨_, rfl, Kd.R_nil _ _ _ _ _, HB2.out.setCell (p := ⟨w.heap.size, 0, none⟩) (Nat.le_refl _) _⟩
  | false =>
   obtain ⟨d, hd⟩ : ∃ d : Bool, d = decide l.Nodup := ⟨_, rfl⟩
   have HD := aM hd
   clear hr hl h40
   cases d with
   | false =>
    rw [show ansRad l = ([], false) by unfold ansRad; rw [if_neg (fun h => by rw [decide_eq_true h.2.2] at hd; cases hd)]]
    clear hb hd
    go_enter Try.func14, Try.ntmps14
    have HF : Aside0 ((((cc (srt l)).length : Int) != ((srt l).length : Int)) = true) := ⟨by
     rw [bne_iff_ne]
     intro e
     have h1 := cc_less (xs := srt l) (List.pairwise_mergeSort (fun a b c => leB_trans a b c) leB_tri l) (by omega)
     have h2 := of_decide_eq_false HD.out.symm
     exact h2 ((srt_perm l).nodup_iff.1 h1)⟩
    go_upto_region 5 with (first | (go_at_call 40; go_loud ((with_reducible refine (contains_calls A c l _ (Kd.C_below HC.out HB0.out) HL.out).mono ?_); rintro e w2 ⟨rfl, hb⟩; rw [← HBB.out]; have HR2 := aM ((hb.block w.heap.size (by simp)).trans HR0.out); have HB2 := aM (below_then HB0.out HSZ.out hb); have HS2 := aM (Nat.le_trans HS0.out hb.size); clear hb)) | (go_at_call 43; go_loud ((with_reducible refine (Rws.clone_str A c l _ (Kd.C_below HC.out HB2.out) HL.out.1).mono ?_); rintro e w3 ⟨v3, rfl, ho, hb⟩; have HO3 := aM ho; have HB23 := aM hb; have HR3 := aM ((hb.block w.heap.size (by have := HS2.out; omega)).trans HR2.out); have HB3 := aM (below_step HB2.out hb); have HS3 := aM (Nat.le_trans HS2.out hb.size); clear ho hb)) | (go_at_call 44; go_loud ((with_reducible refine (sort_calls l v3 _ _ _ HO3.out HL.out.1).mono ?_); rintro e w4 ⟨rfl, ho, hg⟩; have HO4 := aM ho; obtain ⟨A4, c4, e4, hl4, hC4⟩ := Kd.R_reads ho; subst e4; have HL4 := aM hl4; have HC4 := aM hC4; have HG := aM hg; have HR4 := aM ((hg.block w.heap.size (by have := HS3.out; omega) (fun e => by have := Kd.R_base ho _ e.symm; have := HS2.out; omega)).trans HR3.out); have HB4 := aM (HB3.out.grown hg (by have := HS3.out; omega) (fun k hk => by have := Kd.R_base ho _ hk; have := HS2.out; omega)); have HS4 := aM (Nat.le_trans HS3.out hg.size); clear ho hl4 hC4 hg)))
    go_upto_region 6 with (first | (go_at_call 43; go_loud ((with_reducible refine (Rws.clone_str A4 c4 (srt l) _ HC4.out (srt_small HL.out)).mono ?_); rintro e w5 ⟨v5, rfl, ho, hb⟩; have HO5 := aM ho; have HO45 := aM (Kd.R_below HO4.out hb); have HR5 := aM ((hb.block w.heap.size (by have := HS4.out; omega)).trans HR4.out); have HB5 := aM (below_step HB4.out hb); have HS5 := aM (Nat.le_trans HS4.out hb.size); clear ho hb)) | (go_at_call 45; go_loud ((with_reducible refine (compact_calls (srt l) v5 _ _ _ HO5.out (srt_small HL.out)).mono ?_); rintro e w6 ⟨A6, n6, c6, rfl, hh, hg⟩; have HN6 := aM hh.1; have HO46 := aM (Kd.R_grown2 HO45.out rfl hg (fun k hk e => by have h1 := Kd.R_base HO5.out _ hk; have h2 := Kd.R_lt HO4.out _ e.symm; omega)); have HR6 := aM ((hg.block w.heap.size (by have := HS5.out; omega) (fun e => by have h1 := Kd.R_base HO5.out _ e.symm; have := HS4.out; omega)).trans HR5.out); have HB6 := aM (HB5.out.grown hg (by have := HS5.out; omega) (fun k hk => by have h1 := Kd.R_base HO5.out _ hk; have := HS4.out; omega)); have HS6 := aM (Nat.le_trans HS5.out hg.size); have hfn : ((n6 : Int) != ((srt l).length : Int)) = true := (by rw [HN6.out, List.length_map]; exact HF.out); clear hh hg)))
    have cr : w6.cell? ⟨w.heap.size, 0, none⟩ = some (.slice none 0 0) := (blk_cell HR6.out 0).trans rfl
    have fr : w6.frozen? ⟨w.heap.size, 0, none⟩ = false := blk_frozen HR6.out 0
    clear hfn
    go_wp2
    refine bodyPost_ret (results_ct rfl _ _ w.heap.size 26 #[.slice none 0 0] (0, 0) _ rfl (blk_put HR6.out 0 _ rfl) Try.underlying26 rfl (by kernel_rfl)) rfl ?_
    exact ⟨_, rfl, Kd.R_nil _ _ _ _ _, HB6.out.setCell (p := ⟨w.heap.size, 0, none⟩) (Nat.le_refl _) _⟩
   | true =>
    have hnd : l.Nodup := of_decide_eq_true hd.symm
    rw [show ansRad l = (tree (srt l), true) by unfold ansRad; rw [if_pos ⟨H40.out, hb.symm, hnd⟩]]
    have HNS := aM (names_srt hb.symm hnd)
    obtain ⟨kr, hkr⟩ := (impl_tree HNS.out (by rw [srt_len]; have := H40.out; omega)).ex
    have EKR := aM hkr
    have HF : Aside0 ((((cc (srt l)).length : Int) != ((srt l).length : Int)) = false) := ⟨by
     rw [cc_full ((srt_perm l).nodup_iff.2 hnd)]
     exact bne_self_eq_false _⟩
    clear hb hd hnd hkr
    go_enter Try.func14, Try.ntmps14
    go_upto_region 5 with (first | (go_at_call 40; go_loud ((with_reducible refine (contains_calls A c l _ (Kd.C_below HC.out HB0.out) HL.out).mono ?_); rintro e w2 ⟨rfl, hb⟩; rw [← HBB.out]; have HR2 := aM ((hb.block w.heap.size (by simp)).trans HR0.out); have HB2 := aM (below_then HB0.out HSZ.out hb); have HS2 := aM (Nat.le_trans HS0.out hb.size); clear hb)) | (go_at_call 43; go_loud ((with_reducible refine (Rws.clone_str A c l _ (Kd.C_below HC.out HB2.out) HL.out.1).mono ?_); rintro e w3 ⟨v3, rfl, ho, hb⟩; have HO3 := aM ho; have HB23 := aM hb; have HR3 := aM ((hb.block w.heap.size (by have := HS2.out; omega)).trans HR2.out); have HB3 := aM (below_step HB2.out hb); have HS3 := aM (Nat.le_trans HS2.out hb.size); clear ho hb)) | (go_at_call 44; go_loud ((with_reducible refine (sort_calls l v3 _ _ _ HO3.out HL.out.1).mono ?_); rintro e w4 ⟨rfl, ho, hg⟩; have HO4 := aM ho; obtain ⟨A4, c4, e4, hl4, hC4⟩ := Kd.R_reads ho; subst e4; have HL4 := aM hl4; have HC4 := aM hC4; have HG := aM hg; have HR4 := aM ((hg.block w.heap.size (by have := HS3.out; omega) (fun e => by have := Kd.R_base ho _ e.symm; have := HS2.out; omega)).trans HR3.out); have HB4 := aM (HB3.out.grown hg (by have := HS3.out; omega) (fun k hk => by have := Kd.R_base ho _ hk; have := HS2.out; omega)); have HS4 := aM (Nat.le_trans HS3.out hg.size); clear ho hl4 hC4 hg)))
    go_upto_region 7 with (first | (go_at_call 43; go_loud ((with_reducible refine (Rws.clone_str A4 c4 (srt l) _ HC4.out (srt_small HL.out)).mono ?_); rintro e w5 ⟨v5, rfl, ho, hb⟩; have HO5 := aM ho; have HO45 := aM (Kd.R_below HO4.out hb); have HR5 := aM ((hb.block w.heap.size (by have := HS4.out; omega)).trans HR4.out); have HB5 := aM (below_step HB4.out hb); have HS5 := aM (Nat.le_trans HS4.out hb.size); clear ho hb)) | (go_at_call 45; go_loud ((with_reducible refine (compact_calls (srt l) v5 _ _ _ HO5.out (srt_small HL.out)).mono ?_); rintro e w6 ⟨A6, n6, c6, rfl, hh, hg⟩; have HN6 := aM hh.1; have HO46 := aM (Kd.R_grown2 HO45.out rfl hg (fun k hk e => by have h1 := Kd.R_base HO5.out _ hk; have h2 := Kd.R_lt HO4.out _ e.symm; omega)); have HR6 := aM ((hg.block w.heap.size (by have := HS5.out; omega) (fun e => by have h1 := Kd.R_base HO5.out _ e.symm; have := HS4.out; omega)).trans HR5.out); have HB6 := aM (HB5.out.grown hg (by have := HS5.out; omega) (fun k hk => by have h1 := Kd.R_base HO5.out _ hk; have := HS4.out; omega)); have HS6 := aM (Nat.le_trans HS5.out hg.size); have hfn : ((n6 : Int) != ((srt l).length : Int)) = false := (by rw [HN6.out, List.length_map]; exact HF.out); clear hh hg)))
    have HC6 := aM (Kd.R_reads' HO46.out).2.2
    clear hfn
    go_wp2_with (first | (go_at_call 46; go_loud ((with_reducible refine (impl_radixOf.calls kr A4 c4 (srt l) (tree (srt l)) _ HC6.out HL4.out EKR.out).mono ?_); rintro e w7 ⟨v7, rfl, ho, hb⟩; obtain ⟨A7, c7, e7⟩ := Kd.R_slice ho; subst e7; have HO7 := aM ho; have HR7 := aM ((hb.block w.heap.size (by have := HS6.out; omega)).trans HR6.out); have HB7 := aM (below_step HB6.out hb); have cr : w7.cell? ⟨w.heap.size, 0, none⟩ = some (.slice none 0 0) := (blk_cell HR7.out 0).trans rfl; have fr : w7.frozen? ⟨w.heap.size, 0, none⟩ = false := blk_frozen HR7.out 0; clear ho hb)))
    refine bodyPost_ret (results_ct rfl _ _ w.heap.size 26 #[.slice A7 (tree (srt l)).length c7] (0, 0) _ rfl (blk_put HR7.out 0 _ rfl) Try.underlying26 rfl (by kernel_rfl)) rfl ?_
    refine ⟨_, rfl, ?_, HB7.out.setCell (p := ⟨w.heap.size, 0, none⟩) (Nat.le_refl _) _⟩
    have h1 := Kd.R_far (p := ⟨w.heap.size, 0, none⟩) (Kd.R_bound HO7.out) (fun k hk => by have h1 := hk.2.1; have := HS6.out; show k ≠ w.heap.size; omega) (.slice A7 (tree (srt l)).length c7)
    exact Kd.R_mono (Kd.R_lower h1 (by have := HS6.out; omega)) (fun _ _ => trivial)
 ·
  have hgt : decide ((l.length : Int) > 40) = true := decide_eq_true (by omega)
  rw [show ansRad l = ([], false) by unfold ansRad; rw [if_neg (fun h => h40 h.1)]]
  clear hr hl h40
  go_enter Try.func14, Try.ntmps14
  go_wp2
  refine bodyPost_ret (results_ct rfl _ _ w.heap.size 26 #[.slice none 0 0] (0, 0) _ rfl HR0.out Try.underlying26 rfl (by kernel_rfl)) rfl ?_
  exact ⟨_, rfl, Kd.R_nil _ _ _ _ _, HB0.out⟩
end Go.Proofs.Ytcngebfcpobnnaa.Rad
end

section
namespace Go.Proofs.Ytcngebfcpobnnaa.PQ
open Go.RowKit Go.Proofs.YtcngebfcpobnnaaW.PrintWords Go.Proofs.YtcngebfcpobnnaaW.PrintLast Go.Proofs.YtcngebfcpobnnaaW.PrintMore
attribute [local go_sem] max2_int min2_int max_two min_two max_three min_three max_four min_four
set_option linter.unusedVariables false
set_option linter.unusedSimpArgs false
def impl_RadixOf.f (l0 : List ByteArray) : Option (List (S64) × Bool) := if l0.length ≤ 1048576 ∧ ∀ s ∈ l0, s.size ≤ 1048576 then some (Rx.ansRad l0) else none
theorem impl_RadixOf.calls (A0 : Option Addr) (c0 : Nat) (l0 : List ByteArray) (r1 : List (S64)) (r2 : Bool) (w : World) (hr0 : Kd.C Kd.string w A0 l0.length l0) (hc0 : l0.length ≤ c0) (h : impl_RadixOf.f l0 = some (r1, r2)) :
  Calls Try.prog 14 #[.slice A0 l0.length c0] w fun e w' => ∃ v0_ : Value, e = .returned (.tuple #[.agg #[v0_], .bool r2]) ∧ Kd.R k64 64 w' w.heap.size (fun _ => True) v0_ r1 ∧ Below w.heap.size w w' := by
 unfold impl_RadixOf.f at h
 split at h
 ·
  rename_i hs
  have h1 := Option.some.inj h
  have := Rad.radix_calls A0 c0 l0 w hr0 hs
  rw [h1] at this
  exact this
 ·
  cases h

mutual
def laws_FnExactRadixOf.j0 : Nat → List ByteArray → Bool → List ByteArray → Bool → Bool → List (S64) → List (S64) → Option (Bool)
 | 0, _, _, _, _, _, _, _ => none
 | k + 1, x0, x5, x6, x8, x40, x413000, x421000 => if x40 = true then (some false) else ((laws_toStringS.f k x0).bind fun t422 => ((laws_eqStringS.f k x6 t422).bind fun t425 => (if t425 = true then ((laws_markStringS.f k x6 1).bind fun bt426 => (if bt426.1 < 0 then (laws_FnExactRadixOf.j1 k x0 x5 true x413000 x421000) else ((laws_eqRadix.f k x421000 x413000).bind fun t428 => (if t428 = true then (laws_FnExactRadixOf.j1 k x0 x5 (x8 != x5) x413000 x421000) else (laws_FnExactRadixOf.j1 k x0 x5 true x413000 x421000))))) else (some false))))
def laws_FnExactRadixOf.j1 : Nat → List ByteArray → Bool → Bool → List (S64) → List (S64) → Option (Bool)
 | 0, _, _, _, _, _ => none
 | k + 1, x0, x5, x61, x413000, x421000 => if x61 = true then (some false) else ((laws_markRadix.f k x421000 1).bind fun bt429 => ((laws_heldRadix.f k bt429.2 1).bind fun t431 => (if t431 < 0 then (some false) else (if t431 = bt429.1 then ((laws_toStringS.f k x0).bind fun t432 => ((impl_RadixOf.f t432).bind fun bt435 => ((laws_eqRadix.f k bt435.1 x413000).bind fun t440 => (if t440 = true then (laws_FnExactRadixOf.j2 k bt429.1 (bt435.2 != x5) bt429.2) else (laws_FnExactRadixOf.j2 k bt429.1 true bt429.2))))) else (some false)))))
def laws_FnExactRadixOf.j2 : Nat → Int → Bool → List (S64) → Option (Bool)
 | 0, _, _, _ => none
 | k + 1, x10, x87, x421000 => if x87 = true then (some false) else ((laws_heldRadix.f k x421000 1).bind fun t441 => (if t441 < 0 then (some false) else (if t441 = x10 then (some true) else (some false))))
end
def laws_FnExactRadixOf.f (k : Nat) (l0 : List ByteArray) : Option (Bool) := (laws_szStringS.f k l0 1048576).bind fun t404 => (if t404 < 0 then (some true) else ((laws_toStringS.f k l0).bind fun t405 => ((spec_RadixOf.f k t405).bind fun bt408 => ((laws_toStringS.f k l0).bind fun t413 => ((impl_RadixOf.f t413).bind fun bt416 => ((laws_eqRadix.f k bt416.1 bt408.1).bind fun t421 => (if t421 = true then (laws_FnExactRadixOf.j0 k l0 bt408.2 t413 bt416.2 (bt416.2 != bt408.2) bt408.1 bt416.1) else (laws_FnExactRadixOf.j0 k l0 bt408.2 t413 bt416.2 true bt408.1 bt416.1))))))))
set_option maxHeartbeats 8000000 in
set_option maxRecDepth 100000 in
theorem laws_FnExactRadixOf.calls (k : Nat) (A0 : Option Addr) (c0 : Nat) (l0 : List ByteArray) (r : Bool) (w : World) (hr0 : Kd.C Kd.string w A0 l0.length l0) (hc0 : l0.length ≤ c0) (h : laws_FnExactRadixOf.f k l0 = some r) :
  Calls Try.prog 3 #[.slice A0 l0.length c0] w fun e w' => e = .returned (.bool r) ∧ Below w.heap.size w w' := by
 have hu26 := Try.underlying26
 have HR0 := aM hr0
 have HC0 := aM hc0
 clear hr0 hc0
 have HB := aM (Below.refl w.heap.size w)
 have H : ((laws_szStringS.f k l0 1048576).bind fun t404 => (if t404 < 0 then (some true) else ((laws_toStringS.f k l0).bind fun t405 => ((spec_RadixOf.f k t405).bind fun bt408 => ((laws_toStringS.f k l0).bind fun t413 => ((impl_RadixOf.f t413).bind fun bt416 => ((laws_eqRadix.f k bt416.1 bt408.1).bind fun t421 => (if t421 = true then (laws_FnExactRadixOf.j0 k l0 bt408.2 t413 bt416.2 (bt416.2 != bt408.2) bt408.1 bt416.1) else (laws_FnExactRadixOf.j0 k l0 bt408.2 t413 bt416.2 true bt408.1 bt416.1))))))))) = some r := h
 clear h
 replace H := Option.bind_eq_some_iff.mp H
 obtain ⟨t404, A20, H⟩ := H
 replace H : (if t404 < 0 then (some true) else ((laws_toStringS.f k l0).bind fun t405 => ((spec_RadixOf.f k t405).bind fun bt408 => ((laws_toStringS.f k l0).bind fun t413 => ((impl_RadixOf.f t413).bind fun bt416 => ((laws_eqRadix.f k bt416.1 bt408.1).bind fun t421 => (if t421 = true then (laws_FnExactRadixOf.j0 k l0 bt408.2 t413 bt416.2 (bt416.2 != bt408.2) bt408.1 bt416.1) else (laws_FnExactRadixOf.j0 k l0 bt408.2 t413 bt416.2 true bt408.1 bt416.1)))))))) = some r := H
 have A2 := aM A20
 clear A20
 by_cases c3 : t404 < 0
 ·
  rw [if_pos c3] at H
  have c3b0 : decide (t404 < 0) = true := decide_eq_true c3
  clear c3
  obtain rfl := Option.some.inj H
  go_enter Try.func3, Try.ntmps3
  go_wp2_with (first | ((with_reducible refine gate_callee (f := 11) rfl ?_); refine goesL_ (some 16) rfl rfl Try.func11 (by kernel_rfl) rfl #[.slice A0 l0.length c0, .int .i64 1048576] rfl (by (try simp only [List.map_toArray, List.map_cons, List.map_nil]); first | done | rfl | (simp only [List.length_drop, List.length_take]; rfl)) ?_; (with_reducible refine (laws_szStringS.calls k _ _ l0 1048576 t404 _ ?side1 ?side2 A2.out).mono ?_); (case side1 => repeat (first | exact HR0.out | (with_reducible refine Kd.C_alloc ?_ _) | (with_reducible refine Kd.C_drewN ?_ _) | (with_reducible refine Kd.C_drew ?_))); (case side2 => exact HC0.out); rintro e w' ⟨rfl, ⟨nd, rfl⟩⟩; refine ⟨_, rfl, ?_⟩))
  go_ret
  exact ⟨by first | rfl | (simp [errW_none, errW_some] <;> rfl) | (simp [*, errW_none, errW_some] <;> rfl), by repeat (first | (with_reducible first | exact HB.out | apply below_alloc | apply pw_below_drewN | apply below_drew1) | exact HB.out)⟩
 ·
  rw [if_neg c3] at H
  have c3b0 : decide (t404 < 0) = false := decide_eq_false c3
  clear c3
  replace H := Option.bind_eq_some_iff.mp H
  obtain ⟨t405, A40, H⟩ := H
  replace H : ((spec_RadixOf.f k t405).bind fun bt408 => ((laws_toStringS.f k l0).bind fun t413 => ((impl_RadixOf.f t413).bind fun bt416 => ((laws_eqRadix.f k bt416.1 bt408.1).bind fun t421 => (if t421 = true then (laws_FnExactRadixOf.j0 k l0 bt408.2 t413 bt416.2 (bt416.2 != bt408.2) bt408.1 bt416.1) else (laws_FnExactRadixOf.j0 k l0 bt408.2 t413 bt416.2 true bt408.1 bt416.1)))))) = some r := H
  have A4 := aM A40
  clear A40
  replace H := Option.bind_eq_some_iff.mp H
  obtain ⟨⟨t408, t411⟩, A50, H⟩ := H
  replace H : ((laws_toStringS.f k l0).bind fun t413 => ((impl_RadixOf.f t413).bind fun bt416 => ((laws_eqRadix.f k bt416.1 t408).bind fun t421 => (if t421 = true then (laws_FnExactRadixOf.j0 k l0 t411 t413 bt416.2 (bt416.2 != t411) t408 bt416.1) else (laws_FnExactRadixOf.j0 k l0 t411 t413 bt416.2 true t408 bt416.1))))) = some r := H
  have A5 := aM A50
  clear A50
  replace H := Option.bind_eq_some_iff.mp H
  obtain ⟨t413, A60, H⟩ := H
  replace H : ((impl_RadixOf.f t413).bind fun bt416 => ((laws_eqRadix.f k bt416.1 t408).bind fun t421 => (if t421 = true then (laws_FnExactRadixOf.j0 k l0 t411 t413 bt416.2 (bt416.2 != t411) t408 bt416.1) else (laws_FnExactRadixOf.j0 k l0 t411 t413 bt416.2 true t408 bt416.1)))) = some r := H
  have A6 := aM A60
  clear A60
  replace H := Option.bind_eq_some_iff.mp H
  obtain ⟨⟨t416, t419⟩, A70, H⟩ := H
  replace H : ((laws_eqRadix.f k t416 t408).bind fun t421 => (if t421 = true then (laws_FnExactRadixOf.j0 k l0 t411 t413 t419 (t419 != t411) t408 t416) else (laws_FnExactRadixOf.j0 k l0 t411 t413 t419 true t408 t416))) = some r := H
  have A7 := aM A70
  clear A70
  have HC8 := aM H
  clear H
  go_enter Try.func3, Try.ntmps3
  go_upto_region 8 with (first | ((with_reducible refine gate_callee (f := 11) rfl ?_); refine goesL_ (some 16) rfl rfl Try.func11 (by kernel_rfl) rfl #[.slice A0 l0.length c0, .int .i64 1048576] rfl (by (try simp only [List.map_toArray, List.map_cons, List.map_nil]); first | done | rfl | (simp only [List.length_drop, List.length_take]; rfl)) ?_; (with_reducible refine (laws_szStringS.calls k _ _ l0 1048576 t404 _ ?side1 ?side2 A2.out).mono ?_); (case side1 => repeat (first | exact HR0.out | (with_reducible refine Kd.C_alloc ?_ _) | (with_reducible refine Kd.C_drewN ?_ _) | (with_reducible refine Kd.C_drew ?_))); (case side2 => exact HC0.out); rintro e w' ⟨rfl, ⟨nd, rfl⟩⟩; refine ⟨_, rfl, ?_⟩) | ((with_reducible refine gate_callee (f := 13) rfl ?_); refine goesL_ (some 21) rfl rfl Try.func13 (by kernel_rfl) rfl #[.slice A0 l0.length c0] rfl (by (try simp only [List.map_toArray, List.map_cons, List.map_nil]); first | done | rfl | (simp only [List.length_drop, List.length_take]; rfl)) ?_; (with_reducible refine (laws_toStringS.calls k _ _ l0 t405 _ ?side1 ?side2 A4.out).mono ?_); (case side1 => repeat (first | exact HR0.out | (with_reducible refine Kd.C_alloc ?_ _) | (with_reducible refine Kd.C_drewN ?_ _) | (with_reducible refine Kd.C_drew ?_))); (case side2 => exact HC0.out); rintro e w9 ⟨v406, rfl, ho0, hb⟩; refine ⟨_, rfl, ?_⟩; have n0_ := aM (Kd.R_lower ho0 (below_size (by repeat (first | (with_reducible first | exact HB.out | apply below_alloc | apply pw_below_drewN | apply below_drew1) | exact HB.out)))); have n1_ := aM (below_step (by repeat (first | (with_reducible first | exact HB.out | apply below_alloc | apply pw_below_drewN | apply below_drew1) | exact HB.out)) hb); clear HB; have HO407 := n0_; have HB := n1_; clear n0_ n1_; (try clear hb); (try clear hb2); (try clear hk); (try clear hi); (try clear ho0); obtain ⟨Ao10, co10, eo10⟩ := Kd.R_slice HO407.out; subst eo10) | ((with_reducible refine gate_callee (f := 12) rfl ?_); refine goesL_ (some 22) rfl rfl Try.func12 (by kernel_rfl) rfl #[.slice Ao10 t405.length co10] rfl (by (try simp only [List.map_toArray, List.map_cons, List.map_nil]); first | done | rfl | (simp only [List.length_drop, List.length_take]; rfl)) ?_; (with_reducible refine (spec_RadixOf.calls k _ _ t405 t408 t411 _ ?side1 ?side2 A5.out).mono ?_); (case side1 => repeat (first | exact (Kd.R_reads' HO407.out).2.2 | (with_reducible refine Kd.C_alloc ?_ _) | (with_reducible refine Kd.C_drewN ?_ _) | (with_reducible refine Kd.C_drew ?_))); (case side2 => exact (Kd.R_reads' HO407.out).2.1); rintro e w11 ⟨v409, rfl, ho0, hb⟩; refine ⟨_, rfl, ?_⟩; have n0_ := aM (Kd.R_below (by (with_reducible repeat (first | apply Kd.R_alloc | apply Kd.R_drewN | apply Kd.R_drew)); exact HO407.out) hb); have n1_ := aM (Kd.R_lower ho0 (below_size (by repeat (first | (with_reducible first | exact HB.out | apply below_alloc | apply pw_below_drewN | apply below_drew1) | exact HB.out)))); have n2_ := aM (below_step (by repeat (first | (with_reducible first | exact HB.out | apply below_alloc | apply pw_below_drewN | apply below_drew1) | exact HB.out)) hb); clear HO407; clear HB; have HO407 := n0_; have HO410 := n1_; have HB := n2_; clear n0_ n1_ n2_; (try clear hb); (try clear hb2); (try clear hk); (try clear hi); (try clear ho0)) | ((with_reducible refine gate_dst (N := 4) rfl ?_); refine box_event ?hg (N := 4) ?hd (cs := #[.slice none 0 0]) (t := 26) ?hr ?_; (case hd => rfl); (case hg => rfl); (case hr => first | (go_simp; done) | (go_simp; rfl)); intro gb412 hg w12 hbox hb; have n0_ := aM (Kd.R_below (by (with_reducible repeat (first | apply Kd.R_alloc | apply Kd.R_drewN | apply Kd.R_drew)); exact HO407.out) hb); have n1_ := aM (Kd.R_below (by (with_reducible repeat (first | apply Kd.R_alloc | apply Kd.R_drewN | apply Kd.R_drew)); exact HO410.out) hb); have n2_ := aM (below_step (by repeat (first | (with_reducible first | exact HB.out | apply below_alloc | apply pw_below_drewN | apply below_drew1) | exact HB.out)) hb); have n3_ := aM (hbox); have n4_ := aM ((by rw [hg]; exact (below_size (by repeat (first | (with_reducible first | exact HB.out | apply below_alloc | apply pw_below_drewN | apply below_drew1) | exact HB.out))) : w.heap.size ≤ gb412)); have n5_ := aM ((by rw [hg]; exact (below_size (by repeat (first | (with_reducible first | exact HB.out | apply below_alloc | apply pw_below_drewN | apply below_drew1) | exact HB.out))) : w.heap.size ≤ gb412)); clear HO407; clear HO410; clear HB; have HO407 := n0_; have HO410 := n1_; have HB := n2_; have BK412 := n3_; have GW412 := n4_; have GE412 := n5_; clear n0_ n1_ n2_ n3_ n4_ n5_; clear hb hbox hg; obtain ⟨Ao13, co13, eo13⟩ := Kd.R_slice HO410.out; subst eo13; have hcz14_0 : w12.cell? ⟨gb412, 0, none⟩ = some (.slice none 0 0) := (blk_cell BK412.out 0).trans rfl; have hfz14_0 := blk_frozen BK412.out 0) | ((with_reducible refine gate_callee (f := 13) rfl ?_); refine goesL_ (some 26) rfl rfl Try.func13 (by kernel_rfl) rfl #[.slice A0 l0.length c0] rfl (by (try simp only [List.map_toArray, List.map_cons, List.map_nil]); first | done | rfl | (simp only [List.length_drop, List.length_take]; rfl)) ?_; (with_reducible refine (laws_toStringS.calls k _ _ l0 t413 _ ?side1 ?side2 A6.out).mono ?_); (case side1 => exact Kd.C_below HR0.out (by repeat (first | (with_reducible first | exact HB.out | apply below_alloc | apply pw_below_drewN | apply below_drew1 | refine below_set ?_ GE412.out) | exact HB.out))); (case side2 => exact HC0.out); rintro e w15 ⟨v414, rfl, ho0, hb⟩; refine ⟨_, rfl, ?_⟩; have n0_ := aM (Kd.R_elder' (by (with_reducible repeat (first | apply Kd.R_alloc | apply Kd.R_drewN | apply Kd.R_drew)); exact (Kd.R_mono (Kd.R_far (p := ⟨gb412, 0, none⟩) (Kd.R_types HO407.out BK412.out (by decide)) (fun _ hk => hk.2) (.slice Ao13 t408.length co13)) (fun _ h_ => h_.1))) (Kd.R_base ho0) hb); have n1_ := aM (Kd.R_below (by (with_reducible repeat (first | apply Kd.R_alloc | apply Kd.R_drewN | apply Kd.R_drew)); exact (Kd.R_mono (Kd.R_far (p := ⟨gb412, 0, none⟩) (Kd.R_types HO410.out BK412.out (by decide)) (fun _ hk => hk.2) (.slice Ao13 t408.length co13)) (fun _ h_ => h_.1))) hb); have n2_ := aM (Kd.R_lower (Kd.R_new' ho0 (Kd.R_lt (by (with_reducible repeat (first | apply Kd.R_alloc | apply Kd.R_drewN | apply Kd.R_drew)); exact (Kd.R_mono (Kd.R_far (p := ⟨gb412, 0, none⟩) (Kd.R_types HO407.out BK412.out (by decide)) (fun _ hk => hk.2) (.slice Ao13 t408.length co13)) (fun _ h_ => h_.1))))) (below_size (by repeat (first | (with_reducible first | exact HB.out | apply below_alloc | apply pw_below_drewN | apply below_drew1 | refine below_set ?_ GE412.out) | exact HB.out)))); have n3_ := aM (blk_below (g := gb412) (o := .cells #[.slice Ao13 t408.length co13] 26 (0, 0)) (by (with_reducible repeat (first | refine blk_drewN ?_ _ | refine blk_drew ?_ | refine blk_alloc ?_ _)); refine blk_put (cs := #[.slice none 0 0]) ?_ 0 _ rfl; (with_reducible repeat (first | refine blk_drewN ?_ _ | refine blk_drew ?_ | refine blk_alloc ?_ _)); exact BK412.out) hb); have n4_ := aM (below_step (by repeat (first | (with_reducible first | exact HB.out | apply below_alloc | apply pw_below_drewN | apply below_drew1 | refine below_set ?_ GE412.out) | exact HB.out)) hb); clear HO407; clear HO410; clear BK412; clear HB; have HO407 := n0_; have HO410 := n1_; have HO415 := n2_; have BK412 := n3_; have HB := n4_; clear n0_ n1_ n2_ n3_ n4_; (try clear hb); (try clear hb2); (try clear hk); (try clear hi); (try clear ho0); obtain ⟨Ao16, co16, eo16⟩ := Kd.R_slice HO415.out; subst eo16) | ((with_reducible refine gate_callee (f := 14) rfl ?_); refine goesL_ (some 29) rfl rfl Try.func14 (by kernel_rfl) rfl #[.slice Ao16 t413.length co16] rfl (by (try simp only [List.map_toArray, List.map_cons, List.map_nil]); first | done | rfl | (simp only [List.length_drop, List.length_take]; rfl)) ?_; (with_reducible refine (impl_RadixOf.calls _ _ t413 t416 t419 _ ?side1 ?side2 A7.out).mono ?_); (case side1 => repeat (first | exact (Kd.R_reads' HO415.out).2.2 | (with_reducible refine Kd.C_alloc ?_ _) | (with_reducible refine Kd.C_drewN ?_ _) | (with_reducible refine Kd.C_drew ?_))); (case side2 => exact (Kd.R_reads' HO415.out).2.1); rintro e w17 ⟨v417, rfl, ho0, hb⟩; refine ⟨_, rfl, ?_⟩; have n0_ := aM (Kd.R_below (by (with_reducible repeat (first | apply Kd.R_alloc | apply Kd.R_drewN | apply Kd.R_drew)); exact HO407.out) hb); have n1_ := aM (Kd.R_elder' (by (with_reducible repeat (first | apply Kd.R_alloc | apply Kd.R_drewN | apply Kd.R_drew)); exact HO410.out) (Kd.R_base ho0) hb); have n2_ := aM (Kd.R_below (by (with_reducible repeat (first | apply Kd.R_alloc | apply Kd.R_drewN | apply Kd.R_drew)); exact HO415.out) hb); have n3_ := aM (Kd.R_lower (Kd.R_new' ho0 (Kd.R_lt (by (with_reducible repeat (first | apply Kd.R_alloc | apply Kd.R_drewN | apply Kd.R_drew)); exact HO410.out))) (below_size (by repeat (first | (with_reducible first | exact HB.out | apply below_alloc | apply pw_below_drewN | apply below_drew1 | refine below_set ?_ GE412.out) | exact HB.out)))); have n4_ := aM (blk_below (g := gb412) (o := .cells #[.slice Ao13 t408.length co13] 26 (0, 0)) (by (with_reducible repeat (first | refine blk_drewN ?_ _ | refine blk_drew ?_ | refine blk_alloc ?_ _)); exact BK412.out) hb); have n5_ := aM (below_step (by repeat (first | (with_reducible first | exact HB.out | apply below_alloc | apply pw_below_drewN | apply below_drew1 | refine below_set ?_ GE412.out) | exact HB.out)) hb); clear HO407; clear HO410; clear HO415; clear BK412; clear HB; have HO407 := n0_; have HO410 := n1_; have HO415 := n2_; have HO418 := n3_; have BK412 := n4_; have HB := n5_; clear n0_ n1_ n2_ n3_ n4_ n5_; (try clear hb); (try clear hb2); (try clear hk); (try clear hi); (try clear ho0)) | ((with_reducible refine gate_dst (N := 7) rfl ?_); refine box_event ?hg (N := 7) ?hd (cs := #[.slice none 0 0]) (t := 26) ?hr ?_; (case hd => rfl); (case hg => rfl); (case hr => first | (go_simp; done) | (go_simp; rfl)); intro gb420 hg w18 hbox hb; have n0_ := aM (Kd.R_below (by (with_reducible repeat (first | apply Kd.R_alloc | apply Kd.R_drewN | apply Kd.R_drew)); exact HO407.out) hb); have n1_ := aM (Kd.R_below (by (with_reducible repeat (first | apply Kd.R_alloc | apply Kd.R_drewN | apply Kd.R_drew)); exact HO410.out) hb); have n2_ := aM (Kd.R_below (by (with_reducible repeat (first | apply Kd.R_alloc | apply Kd.R_drewN | apply Kd.R_drew)); exact HO415.out) hb); have n3_ := aM (Kd.R_below (by (with_reducible repeat (first | apply Kd.R_alloc | apply Kd.R_drewN | apply Kd.R_drew)); exact HO418.out) hb); have n4_ := aM (blk_below (g := gb412) (o := .cells #[.slice Ao13 t408.length co13] 26 (0, 0)) (by (with_reducible repeat (first | refine blk_drewN ?_ _ | refine blk_drew ?_ | refine blk_alloc ?_ _)); exact BK412.out) hb); have n5_ := aM (below_step (by repeat (first | (with_reducible first | exact HB.out | apply below_alloc | apply pw_below_drewN | apply below_drew1 | refine below_set ?_ GE412.out) | exact HB.out)) hb); have n6_ := aM (hbox); have n7_ := aM ((by rw [hg]; exact (below_size (by repeat (first | (with_reducible first | exact HB.out | apply below_alloc | apply pw_below_drewN | apply below_drew1 | refine below_set ?_ GE412.out) | exact HB.out))) : w.heap.size ≤ gb420)); have n8_ := aM ((by rw [hg]; exact (below_size (by repeat (first | (with_reducible first | exact HB.out | apply below_alloc | apply pw_below_drewN | apply below_drew1 | refine below_set ?_ GE412.out) | exact HB.out))) : w.heap.size ≤ gb420)); have n9_ := aM ((by rw [hg]; exact Nat.ne_of_lt (blk_lt (g := gb412) (o := .cells #[.slice Ao13 t408.length co13] 26 (0, 0)) (by (with_reducible repeat (first | refine blk_drewN ?_ _ | refine blk_drew ?_ | refine blk_alloc ?_ _)); exact BK412.out)) : gb412 ≠ gb420)); have n10_ := aM ((by rw [hg]; exact Nat.ne_of_gt (blk_lt (g := gb412) (o := .cells #[.slice Ao13 t408.length co13] 26 (0, 0)) (by (with_reducible repeat (first | refine blk_drewN ?_ _ | refine blk_drew ?_ | refine blk_alloc ?_ _)); exact BK412.out)) : gb420 ≠ gb412)); clear HO407; clear HO410; clear HO415; clear HO418; clear BK412; clear HB; have HO407 := n0_; have HO410 := n1_; have HO415 := n2_; have HO418 := n3_; have BK412 := n4_; have HB := n5_; have BK420 := n6_; have GW420 := n7_; have GE420 := n8_; have NB412_420 := n9_; have NB420_412 := n10_; clear n0_ n1_ n2_ n3_ n4_ n5_ n6_ n7_ n8_ n9_ n10_; clear hb hbox hg; obtain ⟨Ao19, co19, eo19⟩ := Kd.R_slice HO418.out; subst eo19; have hnb20 := NB420_412.out; have hnc20 := NB412_420.out; have hcz21_0 : w18.cell? ⟨gb420, 0, none⟩ = some (.slice none 0 0) := (blk_cell BK420.out 0).trans rfl; have hfz21_0 := blk_frozen BK420.out 0))
  (try simp only [Act.put, zSA, zSB, zSC])
  go_cut [40] (fun v40 wc => ∃ (kq : Nat) (x40_7 : Bool), v40 = .bool x40_7 ∧ Aside0 (laws_FnExactRadixOf.j0 kq l0 t411 t413 t419 x40_7 t408 t416 = some r) ∧ Aside0 (kq ≤ k) ∧ Aside0 (Kd.R Kd.string 9 wc w.heap.size (fun _ => True) (.slice Ao16 t413.length co16) t413) ∧ Aside0 (Kd.R k64 64 wc w.heap.size (fun k_ => some k_ ≠ ((.slice Ao19 t416.length co19) : Value).ownBlock) (.slice Ao13 t408.length co13) t408) ∧ Aside0 (Kd.R k64 64 wc w.heap.size (fun k_ => some k_ ≠ ((.slice Ao13 t408.length co13) : Value).ownBlock) (.slice Ao19 t416.length co19) t416) ∧ Aside0 (wc.heap[gb412]? = some (.cells #[(.slice Ao13 t408.length co13)] 26 (0, 0))) ∧ Aside0 (wc.heap[gb420]? = some (.cells #[(.slice Ao19 t416.length co19)] 26 (0, 0))) ∧ Aside0 (Below w.heap.size w wc))
  case first =>
   have H := HC8.out
   clear HC8
   replace H := Option.bind_eq_some_iff.mp H
   obtain ⟨t421, A220, H⟩ := H
   replace H : (if t421 = true then (laws_FnExactRadixOf.j0 k l0 t411 t413 t419 (t419 != t411) t408 t416) else (laws_FnExactRadixOf.j0 k l0 t411 t413 t419 true t408 t416)) = some r := H
   have A22 := aM A220
   clear A220
   by_cases c23 : t421 = true
   ·
    subst c23
    have H1 : (laws_FnExactRadixOf.j0 k l0 t411 t413 t419 (t419 != t411) t408 t416) = some r := by rw [if_pos rfl] at H; exact H
    clear H
    have H := H1
    clear H1
    have H' := aM H
    clear H
    have hnb24 := NB420_412.out
    have hnc24 := NB412_420.out
    have hcz25_0 : w18.cell? ⟨gb420, 0, none⟩ = some (.slice none 0 0) := (blk_cell BK420.out 0).trans rfl
    have hfz25_0 := blk_frozen BK420.out 0
    have hcz26_0 : w18.cell? ⟨gb412, 0, none⟩ = some (.slice Ao13 t408.length co13) := (blk_cell BK412.out 0).trans rfl
    have hfz26_0 := blk_frozen BK412.out 0
    go_wp2_with (first | ((with_reducible refine gate_callee (f := 15) rfl ?_); refine goesL_ (some 34) rfl rfl Try.func15 (by kernel_rfl) rfl #[.agg #[.slice Ao19 t416.length co19], .agg #[.slice Ao13 t408.length co13]] rfl (by (try simp only [List.map_toArray, List.map_cons, List.map_nil]); first | done | rfl | (simp only [List.length_drop, List.length_take]; rfl)) ?_; (with_reducible refine (laws_eqRadix.calls k _ _ t416 _ _ t408 true _ ?side1 ?side2 ?side3 ?side4 A22.out).mono ?_); (case side1 => refine (Kd.R_reads' (e := 64) (base := w.heap.size) (ok := fun k_ => (True ∧ some k_ ≠ (.slice Ao13 t408.length co13 : Value).ownBlock)) (n := t416.length) (c := co19) ?_).2.2; exact (by (with_reducible repeat (first | apply Kd.R_alloc | apply Kd.R_drewN | apply Kd.R_drew)); exact (Kd.R_mono (Kd.R_far (p := ⟨gb420, 0, none⟩) (Kd.R_types HO418.out BK420.out (by decide)) (fun _ hk => hk.2) (.slice Ao19 t416.length co19)) (fun _ h_ => h_.1)))); (case side2 => exact (Kd.R_reads' HO418.out).2.1); (case side3 => refine (Kd.R_reads' (e := 64) (base := w.heap.size) (ok := fun k_ => (True ∧ some k_ ≠ (.slice Ao19 t416.length co19 : Value).ownBlock)) (n := t408.length) (c := co13) ?_).2.2; exact (by (with_reducible repeat (first | apply Kd.R_alloc | apply Kd.R_drewN | apply Kd.R_drew)); exact (Kd.R_mono (Kd.R_far (p := ⟨gb420, 0, none⟩) (Kd.R_types HO410.out BK420.out (by decide)) (fun _ hk => hk.2) (.slice Ao19 t416.length co19)) (fun _ h_ => h_.1)))); (case side4 => exact (Kd.R_reads' HO410.out).2.1); rintro e w27 ⟨rfl, hb⟩; refine ⟨_, rfl, ?_⟩; have n0_ := aM (Kd.R_below (by (with_reducible repeat (first | apply Kd.R_alloc | apply Kd.R_drewN | apply Kd.R_drew)); exact (Kd.R_mono (Kd.R_far (p := ⟨gb420, 0, none⟩) (Kd.R_types HO407.out BK420.out (by decide)) (fun _ hk => hk.2) (.slice Ao19 t416.length co19)) (fun _ h_ => h_.1))) hb); have n1_ := aM (Kd.R_below (by (with_reducible repeat (first | apply Kd.R_alloc | apply Kd.R_drewN | apply Kd.R_drew)); exact (Kd.R_mono (Kd.R_far (p := ⟨gb420, 0, none⟩) (Kd.R_types HO410.out BK420.out (by decide)) (fun _ hk => hk.2) (.slice Ao19 t416.length co19)) (fun _ h_ => h_.1))) hb); have n2_ := aM (Kd.R_below (by (with_reducible repeat (first | apply Kd.R_alloc | apply Kd.R_drewN | apply Kd.R_drew)); exact (Kd.R_mono (Kd.R_far (p := ⟨gb420, 0, none⟩) (Kd.R_types HO415.out BK420.out (by decide)) (fun _ hk => hk.2) (.slice Ao19 t416.length co19)) (fun _ h_ => h_.1))) hb); have n3_ := aM (Kd.R_below (by (with_reducible repeat (first | apply Kd.R_alloc | apply Kd.R_drewN | apply Kd.R_drew)); exact (Kd.R_mono (Kd.R_far (p := ⟨gb420, 0, none⟩) (Kd.R_types HO418.out BK420.out (by decide)) (fun _ hk => hk.2) (.slice Ao19 t416.length co19)) (fun _ h_ => h_.1))) hb); have n4_ := aM (blk_below (g := gb412) (o := .cells #[.slice Ao13 t408.length co13] 26 (0, 0)) (by (with_reducible repeat (first | refine blk_drewN ?_ _ | refine blk_drew ?_ | refine blk_alloc ?_ _)); refine blk_far ?_ NB412_420.out _; (with_reducible repeat (first | refine blk_drewN ?_ _ | refine blk_drew ?_ | refine blk_alloc ?_ _)); exact BK412.out) hb); have n5_ := aM (blk_below (g := gb420) (o := .cells #[.slice Ao19 t416.length co19] 26 (0, 0)) (by (with_reducible repeat (first | refine blk_drewN ?_ _ | refine blk_drew ?_ | refine blk_alloc ?_ _)); refine blk_put (cs := #[.slice none 0 0]) ?_ 0 _ rfl; (with_reducible repeat (first | refine blk_drewN ?_ _ | refine blk_drew ?_ | refine blk_alloc ?_ _)); exact BK420.out) hb); have n6_ := aM (below_step (by repeat (first | (with_reducible first | exact HB.out | apply below_alloc | apply pw_below_drewN | apply below_drew1 | refine below_set ?_ GE412.out | refine below_set ?_ GE420.out) | exact HB.out)) hb); clear HO407; clear HO410; clear HO415; clear HO418; clear BK412; clear BK420; clear HB; have HO407 := n0_; have HO410 := n1_; have HO415 := n2_; have HO418 := n3_; have BK412 := n4_; have BK420 := n5_; have HB := n6_; clear n0_ n1_ n2_ n3_ n4_ n5_ n6_; (try clear hb); (try clear hb2); (try clear hk); (try clear hi)))
    go_meet
    case rel => exact ⟨_, ((t419 != t411)), (by first | rfl | (simp; done) | (simp [*]; done)), H', ⟨by first | omega | exact Nat.le_refl _⟩, ⟨by (with_reducible repeat (first | apply Kd.R_alloc | apply Kd.R_drewN | apply Kd.R_drew)); exact Kd.R_mono HO415.out (fun _ hk => trivial)⟩, ⟨by (with_reducible repeat (first | apply Kd.R_alloc | apply Kd.R_drewN | apply Kd.R_drew)); exact Kd.R_mono HO410.out (fun _ hk => hk.2)⟩, ⟨by (with_reducible repeat (first | apply Kd.R_alloc | apply Kd.R_drewN | apply Kd.R_drew)); exact Kd.R_mono HO418.out (fun _ hk => hk.2)⟩, ⟨by (with_reducible repeat (first | refine blk_drewN ?_ _ | refine blk_drew ?_ | refine blk_alloc ?_ _)); exact BK412.out⟩, ⟨by (with_reducible repeat (first | refine blk_drewN ?_ _ | refine blk_drew ?_ | refine blk_alloc ?_ _)); exact BK420.out⟩, ⟨by repeat (first | (with_reducible first | exact HB.out | apply below_alloc | apply pw_below_drewN | apply below_drew1 | refine below_set ?_ GE412.out | refine below_set ?_ GE420.out) | exact HB.out)⟩⟩
   ·
    replace c23 := Bool.eq_false_iff.mpr c23
    subst c23
    have H1 : (laws_FnExactRadixOf.j0 k l0 t411 t413 t419 true t408 t416) = some r := by rw [if_neg (show ¬ (false = true) by decide)] at H; exact H
    clear H
    have H := H1
    clear H1
    have H' := aM H
    clear H
    have hnb28 := NB420_412.out
    have hnc28 := NB412_420.out
    have hcz29_0 : w18.cell? ⟨gb420, 0, none⟩ = some (.slice none 0 0) := (blk_cell BK420.out 0).trans rfl
    have hfz29_0 := blk_frozen BK420.out 0
    have hcz30_0 : w18.cell? ⟨gb412, 0, none⟩ = some (.slice Ao13 t408.length co13) := (blk_cell BK412.out 0).trans rfl
    have hfz30_0 := blk_frozen BK412.out 0
    go_wp2_with (first | ((with_reducible refine gate_callee (f := 15) rfl ?_); refine goesL_ (some 34) rfl rfl Try.func15 (by kernel_rfl) rfl #[.agg #[.slice Ao19 t416.length co19], .agg #[.slice Ao13 t408.length co13]] rfl (by (try simp only [List.map_toArray, List.map_cons, List.map_nil]); first | done | rfl | (simp only [List.length_drop, List.length_take]; rfl)) ?_; (with_reducible refine (laws_eqRadix.calls k _ _ t416 _ _ t408 false _ ?side1 ?side2 ?side3 ?side4 A22.out).mono ?_); (case side1 => refine (Kd.R_reads' (e := 64) (base := w.heap.size) (ok := fun k_ => (True ∧ some k_ ≠ (.slice Ao13 t408.length co13 : Value).ownBlock)) (n := t416.length) (c := co19) ?_).2.2; exact (by (with_reducible repeat (first | apply Kd.R_alloc | apply Kd.R_drewN | apply Kd.R_drew)); exact (Kd.R_mono (Kd.R_far (p := ⟨gb420, 0, none⟩) (Kd.R_types HO418.out BK420.out (by decide)) (fun _ hk => hk.2) (.slice Ao19 t416.length co19)) (fun _ h_ => h_.1)))); (case side2 => exact (Kd.R_reads' HO418.out).2.1); (case side3 => refine (Kd.R_reads' (e := 64) (base := w.heap.size) (ok := fun k_ => (True ∧ some k_ ≠ (.slice Ao19 t416.length co19 : Value).ownBlock)) (n := t408.length) (c := co13) ?_).2.2; exact (by (with_reducible repeat (first | apply Kd.R_alloc | apply Kd.R_drewN | apply Kd.R_drew)); exact (Kd.R_mono (Kd.R_far (p := ⟨gb420, 0, none⟩) (Kd.R_types HO410.out BK420.out (by decide)) (fun _ hk => hk.2) (.slice Ao19 t416.length co19)) (fun _ h_ => h_.1)))); (case side4 => exact (Kd.R_reads' HO410.out).2.1); rintro e w31 ⟨rfl, hb⟩; refine ⟨_, rfl, ?_⟩; have n0_ := aM (Kd.R_below (by (with_reducible repeat (first | apply Kd.R_alloc | apply Kd.R_drewN | apply Kd.R_drew)); exact (Kd.R_mono (Kd.R_far (p := ⟨gb420, 0, none⟩) (Kd.R_types HO407.out BK420.out (by decide)) (fun _ hk => hk.2) (.slice Ao19 t416.length co19)) (fun _ h_ => h_.1))) hb); have n1_ := aM (Kd.R_below (by (with_reducible repeat (first | apply Kd.R_alloc | apply Kd.R_drewN | apply Kd.R_drew)); exact (Kd.R_mono (Kd.R_far (p := ⟨gb420, 0, none⟩) (Kd.R_types HO410.out BK420.out (by decide)) (fun _ hk => hk.2) (.slice Ao19 t416.length co19)) (fun _ h_ => h_.1))) hb); have n2_ := aM (Kd.R_below (by (with_reducible repeat (first | apply Kd.R_alloc | apply Kd.R_drewN | apply Kd.R_drew)); exact (Kd.R_mono (Kd.R_far (p := ⟨gb420, 0, none⟩) (Kd.R_types HO415.out BK420.out (by decide)) (fun _ hk => hk.2) (.slice Ao19 t416.length co19)) (fun _ h_ => h_.1))) hb); have n3_ := aM (Kd.R_below (by (with_reducible repeat (first | apply Kd.R_alloc | apply Kd.R_drewN | apply Kd.R_drew)); exact (Kd.R_mono (Kd.R_far (p := ⟨gb420, 0, none⟩) (Kd.R_types HO418.out BK420.out (by decide)) (fun _ hk => hk.2) (.slice Ao19 t416.length co19)) (fun _ h_ => h_.1))) hb); have n4_ := aM (blk_below (g := gb412) (o := .cells #[.slice Ao13 t408.length co13] 26 (0, 0)) (by (with_reducible repeat (first | refine blk_drewN ?_ _ | refine blk_drew ?_ | refine blk_alloc ?_ _)); refine blk_far ?_ NB412_420.out _; (with_reducible repeat (first | refine blk_drewN ?_ _ | refine blk_drew ?_ | refine blk_alloc ?_ _)); exact BK412.out) hb); have n5_ := aM (blk_below (g := gb420) (o := .cells #[.slice Ao19 t416.length co19] 26 (0, 0)) (by (with_reducible repeat (first | refine blk_drewN ?_ _ | refine blk_drew ?_ | refine blk_alloc ?_ _)); refine blk_put (cs := #[.slice none 0 0]) ?_ 0 _ rfl; (with_reducible repeat (first | refine blk_drewN ?_ _ | refine blk_drew ?_ | refine blk_alloc ?_ _)); exact BK420.out) hb); have n6_ := aM (below_step (by repeat (first | (with_reducible first | exact HB.out | apply below_alloc | apply pw_below_drewN | apply below_drew1 | refine below_set ?_ GE412.out | refine below_set ?_ GE420.out) | exact HB.out)) hb); clear HO407; clear HO410; clear HO415; clear HO418; clear BK412; clear BK420; clear HB; have HO407 := n0_; have HO410 := n1_; have HO415 := n2_; have HO418 := n3_; have BK412 := n4_; have BK420 := n5_; have HB := n6_; clear n0_ n1_ n2_ n3_ n4_ n5_ n6_; (try clear hb); (try clear hb2); (try clear hk); (try clear hi)))
    go_meet
    case rel => exact ⟨_, (true), (by first | rfl | (simp; done) | (simp [*]; done)), H', ⟨by first | omega | exact Nat.le_refl _⟩, ⟨by (with_reducible repeat (first | apply Kd.R_alloc | apply Kd.R_drewN | apply Kd.R_drew)); exact Kd.R_mono HO415.out (fun _ hk => trivial)⟩, ⟨by (with_reducible repeat (first | apply Kd.R_alloc | apply Kd.R_drewN | apply Kd.R_drew)); exact Kd.R_mono HO410.out (fun _ hk => hk.2)⟩, ⟨by (with_reducible repeat (first | apply Kd.R_alloc | apply Kd.R_drewN | apply Kd.R_drew)); exact Kd.R_mono HO418.out (fun _ hk => hk.2)⟩, ⟨by (with_reducible repeat (first | refine blk_drewN ?_ _ | refine blk_drew ?_ | refine blk_alloc ?_ _)); exact BK412.out⟩, ⟨by (with_reducible repeat (first | refine blk_drewN ?_ _ | refine blk_drew ?_ | refine blk_alloc ?_ _)); exact BK420.out⟩, ⟨by repeat (first | (with_reducible first | exact HB.out | apply below_alloc | apply pw_below_drewN | apply below_drew1 | refine below_set ?_ GE412.out | refine below_set ?_ GE420.out) | exact HB.out)⟩⟩
  case rest =>
   clear HC8
   try clear c1
   try clear c2
   try clear p2
   try clear c3
   try clear c3b0
   try clear c11
   try clear c12
   try clear c13
   try clear c14
   try clear c15
   try clear c20
   try clear c23
   try clear c24
   try clear c28
   try clear hcz14_0
   try clear hcz21_0
   try clear hcz25_0
   try clear hcz26_0
   try clear hcz29_0
   try clear hcz30_0
   try clear hfz14_0
   try clear hfz21_0
   try clear hfz25_0
   try clear hfz26_0
   try clear hfz29_0
   try clear hfz30_0
   obtain ⟨kq, x40_7, rfl, HA, HJ7, HO_6, HO_413000, HO_421000, BK412, BK420, HB⟩ := hcut
   cases kq with
   | zero => exact absurd HA.out (by simp [laws_FnExactRadixOf.j0])
   | succ kj7 =>
    have H := HA.out
    clear HA
    simp only [laws_FnExactRadixOf.j0] at H
    by_cases c32 : x40_7 = true
    ·
     subst c32
     have H1 : (some false) = some r := by rw [if_pos rfl] at H; exact H
     clear H
     have H := H1
     clear H1
     obtain rfl := Option.some.inj H
     go_wp2
     go_ret
     exact ⟨by first | rfl | (simp [errW_none, errW_some] <;> rfl) | (simp [*, errW_none, errW_some] <;> rfl), by repeat (first | (with_reducible first | exact HB.out | apply below_alloc | apply pw_below_drewN | apply below_drew1 | refine below_set ?_ GE412.out | refine below_set ?_ GE420.out) | exact HB.out)⟩
    ·
     replace c32 := Bool.eq_false_iff.mpr c32
     subst c32
     have H1 : ((laws_toStringS.f kj7 l0).bind fun t422 => ((laws_eqStringS.f kj7 t413 t422).bind fun t425 => (if t425 = true then ((laws_markStringS.f kj7 t413 1).bind fun bt426 => (if bt426.1 < 0 then (laws_FnExactRadixOf.j1 kj7 l0 t411 true t408 t416) else ((laws_eqRadix.f kj7 t416 t408).bind fun t428 => (if t428 = true then (laws_FnExactRadixOf.j1 kj7 l0 t411 (t419 != t411) t408 t416) else (laws_FnExactRadixOf.j1 kj7 l0 t411 true t408 t416))))) else (some false)))) = some r := by rw [if_neg (show ¬ (false = true) by decide)] at H; exact H
     clear H
     have H := H1
     clear H1
     replace H := Option.bind_eq_some_iff.mp H
     obtain ⟨t422, A330, H⟩ := H
     replace H : ((laws_eqStringS.f kj7 t413 t422).bind fun t425 => (if t425 = true then ((laws_markStringS.f kj7 t413 1).bind fun bt426 => (if bt426.1 < 0 then (laws_FnExactRadixOf.j1 kj7 l0 t411 true t408 t416) else ((laws_eqRadix.f kj7 t416 t408).bind fun t428 => (if t428 = true then (laws_FnExactRadixOf.j1 kj7 l0 t411 (t419 != t411) t408 t416) else (laws_FnExactRadixOf.j1 kj7 l0 t411 true t408 t416))))) else (some false))) = some r := H
     have A33 := aM A330
     clear A330
     replace H := Option.bind_eq_some_iff.mp H
     obtain ⟨t425, A340, H⟩ := H
     replace H : (if t425 = true then ((laws_markStringS.f kj7 t413 1).bind fun bt426 => (if bt426.1 < 0 then (laws_FnExactRadixOf.j1 kj7 l0 t411 true t408 t416) else ((laws_eqRadix.f kj7 t416 t408).bind fun t428 => (if t428 = true then (laws_FnExactRadixOf.j1 kj7 l0 t411 (t419 != t411) t408 t416) else (laws_FnExactRadixOf.j1 kj7 l0 t411 true t408 t416))))) else (some false)) = some r := H
     have A34 := aM A340
     clear A340
     by_cases c35 : t425 = true
     ·
      subst c35
      have H1 : ((laws_markStringS.f kj7 t413 1).bind fun bt426 => (if bt426.1 < 0 then (laws_FnExactRadixOf.j1 kj7 l0 t411 true t408 t416) else ((laws_eqRadix.f kj7 t416 t408).bind fun t428 => (if t428 = true then (laws_FnExactRadixOf.j1 kj7 l0 t411 (t419 != t411) t408 t416) else (laws_FnExactRadixOf.j1 kj7 l0 t411 true t408 t416))))) = some r := by rw [if_pos rfl] at H; exact H
      clear H
      have H := H1
      clear H1
      replace H := Option.bind_eq_some_iff.mp H
      obtain ⟨⟨t426, t427⟩, A360, H⟩ := H
      replace H : (if t426 < 0 then (laws_FnExactRadixOf.j1 kj7 l0 t411 true t408 t416) else ((laws_eqRadix.f kj7 t416 t408).bind fun t428 => (if t428 = true then (laws_FnExactRadixOf.j1 kj7 l0 t411 (t419 != t411) t408 t416) else (laws_FnExactRadixOf.j1 kj7 l0 t411 true t408 t416)))) = some r := H
      have A36 := aM A360
      clear A360
      have HC37 := aM H
      clear H
      go_upto_region 14 with (first | ((with_reducible refine gate_callee (f := 13) rfl ?_); refine goesL_ (some 43) rfl rfl Try.func13 (by kernel_rfl) rfl #[.slice A0 l0.length c0] rfl (by (try simp only [List.map_toArray, List.map_cons, List.map_nil]); first | done | rfl | (simp only [List.length_drop, List.length_take]; rfl)) ?_; (with_reducible refine (laws_toStringS.calls kj7 _ _ l0 t422 _ ?side1 ?side2 A33.out).mono ?_); (case side1 => repeat (first | exact (Kd.C_below HR0.out HB.out) | (with_reducible refine Kd.C_alloc ?_ _) | (with_reducible refine Kd.C_drewN ?_ _) | (with_reducible refine Kd.C_drew ?_))); (case side2 => exact HC0.out); rintro e w38 ⟨v423, rfl, ho0, hb⟩; refine ⟨_, rfl, ?_⟩; have n0_ := aM (Kd.R_elder' (by (with_reducible repeat (first | apply Kd.R_alloc | apply Kd.R_drewN | apply Kd.R_drew)); exact HO_6.out) (Kd.R_base ho0) hb); have n1_ := aM (Kd.R_below (by (with_reducible repeat (first | apply Kd.R_alloc | apply Kd.R_drewN | apply Kd.R_drew)); exact HO_413000.out) hb); have n2_ := aM (Kd.R_below (by (with_reducible repeat (first | apply Kd.R_alloc | apply Kd.R_drewN | apply Kd.R_drew)); exact HO_421000.out) hb); have n3_ := aM (Kd.R_lower (Kd.R_new' ho0 (Kd.R_lt (by (with_reducible repeat (first | apply Kd.R_alloc | apply Kd.R_drewN | apply Kd.R_drew)); exact HO_6.out))) (below_size (by repeat (first | (with_reducible first | exact HB.out | apply below_alloc | apply pw_below_drewN | apply below_drew1 | refine below_set ?_ GE412.out | refine below_set ?_ GE420.out) | exact HB.out)))); have n4_ := aM (blk_below (g := gb412) (o := .cells #[.slice Ao13 t408.length co13] 26 (0, 0)) (by (with_reducible repeat (first | refine blk_drewN ?_ _ | refine blk_drew ?_ | refine blk_alloc ?_ _)); exact BK412.out) hb); have n5_ := aM (blk_below (g := gb420) (o := .cells #[.slice Ao19 t416.length co19] 26 (0, 0)) (by (with_reducible repeat (first | refine blk_drewN ?_ _ | refine blk_drew ?_ | refine blk_alloc ?_ _)); exact BK420.out) hb); have n6_ := aM (below_step (by repeat (first | (with_reducible first | exact HB.out | apply below_alloc | apply pw_below_drewN | apply below_drew1 | refine below_set ?_ GE412.out | refine below_set ?_ GE420.out) | exact HB.out)) hb); clear HO_6; clear HO_413000; clear HO_421000; clear BK412; clear BK420; clear HB; have HO_6 := n0_; have HO_413000 := n1_; have HO_421000 := n2_; have HO424 := n3_; have BK412 := n4_; have BK420 := n5_; have HB := n6_; clear n0_ n1_ n2_ n3_ n4_ n5_ n6_; (try clear hb); (try clear hb2); (try clear hk); (try clear hi); (try clear ho0); obtain ⟨Ao39, co39, eo39⟩ := Kd.R_slice HO424.out; subst eo39) | ((with_reducible refine gate_callee (f := 16) rfl ?_); refine goesL_ (some 44) rfl rfl Try.func16 (by kernel_rfl) rfl #[.slice Ao16 t413.length co16, .slice Ao39 t422.length co39] rfl (by (try simp only [List.map_toArray, List.map_cons, List.map_nil]); first | done | rfl | (simp only [List.length_drop, List.length_take]; rfl)) ?_; (with_reducible refine (laws_eqStringS.calls kj7 _ _ t413 _ _ t422 true _ ?side1 ?side2 ?side3 ?side4 A34.out).mono ?_); (case side1 => repeat (first | exact (Kd.R_reads' HO_6.out).2.2 | (with_reducible refine Kd.C_alloc ?_ _) | (with_reducible refine Kd.C_drewN ?_ _) | (with_reducible refine Kd.C_drew ?_))); (case side2 => exact (Kd.R_reads' HO_6.out).2.1); (case side3 => repeat (first | exact (Kd.R_reads' HO424.out).2.2 | (with_reducible refine Kd.C_alloc ?_ _) | (with_reducible refine Kd.C_drewN ?_ _) | (with_reducible refine Kd.C_drew ?_))); (case side4 => exact (Kd.R_reads' HO424.out).2.1); rintro e w' ⟨rfl, ⟨nd, rfl⟩⟩; refine ⟨_, rfl, ?_⟩) | ((with_reducible refine gate_callee (f := 17) rfl ?_); refine goesL_ (some 48) rfl rfl Try.func17 (by kernel_rfl) rfl #[.slice Ao16 t413.length co16, .int .i64 1] rfl (by (try simp only [List.map_toArray, List.map_cons, List.map_nil]); first | done | rfl | (simp only [List.length_drop, List.length_take]; rfl)) ?_; (with_reducible refine (laws_markStringS.calls kj7 (fun k_ => some k_ = (.slice Ao16 t413.length co16 : Value).ownBlock) (.slice Ao16 t413.length co16) t413 1 t426 t427 w _ ?side1 ?side2 A36.out).mono ?_); (case side1 => repeat (first | (with_reducible first | exact HB.out | apply below_alloc | apply pw_below_drewN | apply below_drew1 | refine below_set ?_ GE412.out | refine below_set ?_ GE420.out) | exact HB.out)); (case side2 => exact Kd.R_tight rfl HO_6.out); rintro e w40 ⟨rfl, hy0, hb, hkp⟩; refine ⟨_, rfl, ?_⟩; have n0_ := aM (Kd.R_reok rfl hy0 (fun k_ e_ => HO_6.out.1 k_ e_)); have n1_ := aM (Kd.R_mono (ok' := fun k_ => some k_ ≠ (.slice Ao19 t416.length co19 : Value).ownBlock) (Kd.R_keptB ((Kd.R_apart' HO_413000.out (Kd.R_typed HO_6.out) (by decide))) hkp (fun k_ hk_ hs_ => (hk_.2) hs_)) (fun k_ hk_ => hk_.1.1)); have n2_ := aM (Kd.R_mono (ok' := fun k_ => some k_ ≠ (.slice Ao13 t408.length co13 : Value).ownBlock) (Kd.R_keptB ((Kd.R_apart' HO_421000.out (Kd.R_typed HO_6.out) (by decide))) hkp (fun k_ hk_ hs_ => (hk_.2) hs_)) (fun k_ hk_ => hk_.1.1)); have n3_ := aM (blk_kept (by (with_reducible repeat (first | refine blk_drewN ?_ _ | refine blk_drew ?_ | refine blk_alloc ?_ _)); exact BK412.out) hkp (fun hs_ => (fun e_ => (Kd.R_ne HO_6.out BK412.out (by decide)) e_) hs_)); have n4_ := aM (blk_kept (by (with_reducible repeat (first | refine blk_drewN ?_ _ | refine blk_drew ?_ | refine blk_alloc ?_ _)); exact BK420.out) hkp (fun hs_ => (fun e_ => (Kd.R_ne HO_6.out BK420.out (by decide)) e_) hs_)); have n5_ := aM (Kd.R_mono (ok' := fun k_ => some k_ ≠ (.slice Ao16 t413.length co16 : Value).ownBlock) (Kd.R_keptB (HO424.out) hkp (fun k_ hk_ hs_ => (hk_.2) hs_)) (fun k_ hk_ => hk_.1.2)); have n6_ := aM (hb); clear HO_6; clear HO_413000; clear HO_421000; clear BK412; clear BK420; clear HO424; clear HB; have HO_6 := n0_; have HO_413000 := n1_; have HO_421000 := n2_; have BK412 := n3_; have BK420 := n4_; have HO424 := n5_; have HB := n6_; clear n0_ n1_ n2_ n3_ n4_ n5_ n6_; (try clear hb); (try clear hkp); (try clear hy0)))
      (try simp only [Act.put, zSA, zSB, zSC])
      go_cut [61] (fun v61 wc => ∃ (kq : Nat) (x61_36 : Bool), v61 = .bool x61_36 ∧ Aside0 (laws_FnExactRadixOf.j1 kq l0 t411 x61_36 t408 t416 = some r) ∧ Aside0 (kq ≤ kj7) ∧ Aside0 (Kd.R k64 64 wc w.heap.size (fun k_ => some k_ ≠ ((.slice Ao19 t416.length co19) : Value).ownBlock) (.slice Ao13 t408.length co13) t408) ∧ Aside0 (Kd.R k64 64 wc w.heap.size (fun k_ => some k_ ≠ ((.slice Ao13 t408.length co13) : Value).ownBlock) (.slice Ao19 t416.length co19) t416) ∧ Aside0 (wc.heap[gb412]? = some (.cells #[(.slice Ao13 t408.length co13)] 26 (0, 0))) ∧ Aside0 (wc.heap[gb420]? = some (.cells #[(.slice Ao19 t416.length co19)] 26 (0, 0))) ∧ Aside0 (Below w.heap.size w wc))
      case first =>
       have H := HC37.out
       clear HC37
       by_cases c41 : t426 < 0
       ·
        rw [if_pos c41] at H
        have c41b0 : decide (t426 < 0) = true := decide_eq_true c41
        clear c41
        (first | rw [c41b0] | (simp only [i64_w, i32_w]; rw [c41b0]) | skip)
        have H' := aM H
        clear H
        go_wp2
        go_meet
        case rel => exact ⟨_, (true), (by first | rfl | (simp; done) | (simp [*]; done)), H', ⟨by have := HJ7.out; first | omega | exact Nat.le_refl _⟩, ⟨by (with_reducible repeat (first | apply Kd.R_alloc | apply Kd.R_drewN | apply Kd.R_drew)); exact HO_413000.out⟩, ⟨by (with_reducible repeat (first | apply Kd.R_alloc | apply Kd.R_drewN | apply Kd.R_drew)); exact HO_421000.out⟩, ⟨by (with_reducible repeat (first | refine blk_drewN ?_ _ | refine blk_drew ?_ | refine blk_alloc ?_ _)); exact BK412.out⟩, ⟨by (with_reducible repeat (first | refine blk_drewN ?_ _ | refine blk_drew ?_ | refine blk_alloc ?_ _)); exact BK420.out⟩, ⟨by repeat (first | (with_reducible first | exact HB.out | apply below_alloc | apply pw_below_drewN | apply below_drew1 | refine below_set ?_ GE412.out | refine below_set ?_ GE420.out) | exact HB.out)⟩⟩
       ·
        rw [if_neg c41] at H
        have c41b0 : decide (t426 < 0) = false := decide_eq_false c41
        clear c41
        (first | rw [c41b0] | (simp only [i64_w, i32_w]; rw [c41b0]) | skip)
        replace H := Option.bind_eq_some_iff.mp H
        obtain ⟨t428, A420, H⟩ := H
        replace H : (if t428 = true then (laws_FnExactRadixOf.j1 kj7 l0 t411 (t419 != t411) t408 t416) else (laws_FnExactRadixOf.j1 kj7 l0 t411 true t408 t416)) = some r := H
        have A42 := aM A420
        clear A420
        by_cases c43 : t428 = true
        ·
         subst c43
         have H1 : (laws_FnExactRadixOf.j1 kj7 l0 t411 (t419 != t411) t408 t416) = some r := by rw [if_pos rfl] at H; exact H
         clear H
         have H := H1
         clear H1
         have H' := aM H
         clear H
         have hnb44 := NB420_412.out
         have hnc44 := NB412_420.out
         have hcz45_0 : w40.cell? ⟨gb420, 0, none⟩ = some (.slice Ao19 t416.length co19) := (blk_cell BK420.out 0).trans rfl
         have hfz45_0 := blk_frozen BK420.out 0
         have hcz46_0 : w40.cell? ⟨gb412, 0, none⟩ = some (.slice Ao13 t408.length co13) := (blk_cell BK412.out 0).trans rfl
         have hfz46_0 := blk_frozen BK412.out 0
         go_wp2_with (first | (go_at_call 15; (try simp only [i64_w]); (with_reducible refine (laws_eqRadix.calls kj7 _ _ t416 _ _ t408 true _ ?side1 ?side2 ?side3 ?side4 A42.out).mono ?_); (case side1 => repeat (first | exact (Kd.R_reads' HO_421000.out).2.2 | (with_reducible refine Kd.C_alloc ?_ _) | (with_reducible refine Kd.C_drewN ?_ _) | (with_reducible refine Kd.C_drew ?_))); (case side2 => exact (Kd.R_reads' HO_421000.out).2.1); (case side3 => repeat (first | exact (Kd.R_reads' HO_413000.out).2.2 | (with_reducible refine Kd.C_alloc ?_ _) | (with_reducible refine Kd.C_drewN ?_ _) | (with_reducible refine Kd.C_drew ?_))); (case side4 => exact (Kd.R_reads' HO_413000.out).2.1); rintro e w47 ⟨rfl, hb⟩; have n0_ := aM (Kd.R_below (by (with_reducible repeat (first | apply Kd.R_alloc | apply Kd.R_drewN | apply Kd.R_drew)); exact HO_6.out) hb); have n1_ := aM (Kd.R_below (by (with_reducible repeat (first | apply Kd.R_alloc | apply Kd.R_drewN | apply Kd.R_drew)); exact HO_413000.out) hb); have n2_ := aM (Kd.R_below (by (with_reducible repeat (first | apply Kd.R_alloc | apply Kd.R_drewN | apply Kd.R_drew)); exact HO_421000.out) hb); have n3_ := aM (Kd.R_below (by (with_reducible repeat (first | apply Kd.R_alloc | apply Kd.R_drewN | apply Kd.R_drew)); exact HO424.out) hb); have n4_ := aM (blk_below (g := gb412) (o := .cells #[.slice Ao13 t408.length co13] 26 (0, 0)) (by (with_reducible repeat (first | refine blk_drewN ?_ _ | refine blk_drew ?_ | refine blk_alloc ?_ _)); exact BK412.out) hb); have n5_ := aM (blk_below (g := gb420) (o := .cells #[.slice Ao19 t416.length co19] 26 (0, 0)) (by (with_reducible repeat (first | refine blk_drewN ?_ _ | refine blk_drew ?_ | refine blk_alloc ?_ _)); exact BK420.out) hb); have n6_ := aM (below_step (by repeat (first | (with_reducible first | exact HB.out | apply below_alloc | apply pw_below_drewN | apply below_drew1 | refine below_set ?_ GE412.out | refine below_set ?_ GE420.out) | exact HB.out)) hb); clear HO_6; clear HO_413000; clear HO_421000; clear HO424; clear BK412; clear BK420; clear HB; have HO_6 := n0_; have HO_413000 := n1_; have HO_421000 := n2_; have HO424 := n3_; have BK412 := n4_; have BK420 := n5_; have HB := n6_; clear n0_ n1_ n2_ n3_ n4_ n5_ n6_; (try clear hb); (try clear hb2); (try clear hk); (try clear hi)))
         go_meet
         case rel => exact ⟨_, ((t419 != t411)), (by first | rfl | (simp; done) | (simp [*]; done)), H', ⟨by have := HJ7.out; first | omega | exact Nat.le_refl _⟩, ⟨by (with_reducible repeat (first | apply Kd.R_alloc | apply Kd.R_drewN | apply Kd.R_drew)); exact HO_413000.out⟩, ⟨by (with_reducible repeat (first | apply Kd.R_alloc | apply Kd.R_drewN | apply Kd.R_drew)); exact HO_421000.out⟩, ⟨by (with_reducible repeat (first | refine blk_drewN ?_ _ | refine blk_drew ?_ | refine blk_alloc ?_ _)); exact BK412.out⟩, ⟨by (with_reducible repeat (first | refine blk_drewN ?_ _ | refine blk_drew ?_ | refine blk_alloc ?_ _)); exact BK420.out⟩, ⟨by repeat (first | (with_reducible first | exact HB.out | apply below_alloc | apply pw_below_drewN | apply below_drew1 | refine below_set ?_ GE412.out | refine below_set ?_ GE420.out) | exact HB.out)⟩⟩
        ·
         replace c43 := Bool.eq_false_iff.mpr c43
         subst c43
         have H1 : (laws_FnExactRadixOf.j1 kj7 l0 t411 true t408 t416) = some r := by rw [if_neg (show ¬ (false = true) by decide)] at H; exact H
         clear H
         have H := H1
         clear H1
         have H' := aM H
         clear H
         have hnb48 := NB420_412.out
         have hnc48 := NB412_420.out
         have hcz49_0 : w40.cell? ⟨gb420, 0, none⟩ = some (.slice Ao19 t416.length co19) := (blk_cell BK420.out 0).trans rfl
         have hfz49_0 := blk_frozen BK420.out 0
         have hcz50_0 : w40.cell? ⟨gb412, 0, none⟩ = some (.slice Ao13 t408.length co13) := (blk_cell BK412.out 0).trans rfl
         have hfz50_0 := blk_frozen BK412.out 0
         go_wp2_with (first | (go_at_call 15; (try simp only [i64_w]); (with_reducible refine (laws_eqRadix.calls kj7 _ _ t416 _ _ t408 false _ ?side1 ?side2 ?side3 ?side4 A42.out).mono ?_); (case side1 => repeat (first | exact (Kd.R_reads' HO_421000.out).2.2 | (with_reducible refine Kd.C_alloc ?_ _) | (with_reducible refine Kd.C_drewN ?_ _) | (with_reducible refine Kd.C_drew ?_))); (case side2 => exact (Kd.R_reads' HO_421000.out).2.1); (case side3 => repeat (first | exact (Kd.R_reads' HO_413000.out).2.2 | (with_reducible refine Kd.C_alloc ?_ _) | (with_reducible refine Kd.C_drewN ?_ _) | (with_reducible refine Kd.C_drew ?_))); (case side4 => exact (Kd.R_reads' HO_413000.out).2.1); rintro e w51 ⟨rfl, hb⟩; have n0_ := aM (Kd.R_below (by (with_reducible repeat (first | apply Kd.R_alloc | apply Kd.R_drewN | apply Kd.R_drew)); exact HO_6.out) hb); have n1_ := aM (Kd.R_below (by (with_reducible repeat (first | apply Kd.R_alloc | apply Kd.R_drewN | apply Kd.R_drew)); exact HO_413000.out) hb); have n2_ := aM (Kd.R_below (by (with_reducible repeat (first | apply Kd.R_alloc | apply Kd.R_drewN | apply Kd.R_drew)); exact HO_421000.out) hb); have n3_ := aM (Kd.R_below (by (with_reducible repeat (first | apply Kd.R_alloc | apply Kd.R_drewN | apply Kd.R_drew)); exact HO424.out) hb); have n4_ := aM (blk_below (g := gb412) (o := .cells #[.slice Ao13 t408.length co13] 26 (0, 0)) (by (with_reducible repeat (first | refine blk_drewN ?_ _ | refine blk_drew ?_ | refine blk_alloc ?_ _)); exact BK412.out) hb); have n5_ := aM (blk_below (g := gb420) (o := .cells #[.slice Ao19 t416.length co19] 26 (0, 0)) (by (with_reducible repeat (first | refine blk_drewN ?_ _ | refine blk_drew ?_ | refine blk_alloc ?_ _)); exact BK420.out) hb); have n6_ := aM (below_step (by repeat (first | (with_reducible first | exact HB.out | apply below_alloc | apply pw_below_drewN | apply below_drew1 | refine below_set ?_ GE412.out | refine below_set ?_ GE420.out) | exact HB.out)) hb); clear HO_6; clear HO_413000; clear HO_421000; clear HO424; clear BK412; clear BK420; clear HB; have HO_6 := n0_; have HO_413000 := n1_; have HO_421000 := n2_; have HO424 := n3_; have BK412 := n4_; have BK420 := n5_; have HB := n6_; clear n0_ n1_ n2_ n3_ n4_ n5_ n6_; (try clear hb); (try clear hb2); (try clear hk); (try clear hi)))
         go_meet
         case rel => exact ⟨_, (true), (by first | rfl | (simp; done) | (simp [*]; done)), H', ⟨by have := HJ7.out; first | omega | exact Nat.le_refl _⟩, ⟨by (with_reducible repeat (first | apply Kd.R_alloc | apply Kd.R_drewN | apply Kd.R_drew)); exact HO_413000.out⟩, ⟨by (with_reducible repeat (first | apply Kd.R_alloc | apply Kd.R_drewN | apply Kd.R_drew)); exact HO_421000.out⟩, ⟨by (with_reducible repeat (first | refine blk_drewN ?_ _ | refine blk_drew ?_ | refine blk_alloc ?_ _)); exact BK412.out⟩, ⟨by (with_reducible repeat (first | refine blk_drewN ?_ _ | refine blk_drew ?_ | refine blk_alloc ?_ _)); exact BK420.out⟩, ⟨by repeat (first | (with_reducible first | exact HB.out | apply below_alloc | apply pw_below_drewN | apply below_drew1 | refine below_set ?_ GE412.out | refine below_set ?_ GE420.out) | exact HB.out)⟩⟩
      case rest =>
       clear HC37
       try clear c1
       try clear c2
       try clear p2
       try clear c3
       try clear c3b0
       try clear c4
       try clear c11
       try clear c12
       try clear c13
       try clear c14
       try clear c15
       try clear c16
       try clear c17
       try clear c20
       try clear c23
       try clear c24
       try clear c28
       try clear c32
       try clear c35
       try clear c41
       try clear c41b0
       try clear c43
       try clear c44
       try clear c48
       try clear hcz14_0
       try clear hcz21_0
       try clear hcz25_0
       try clear hcz26_0
       try clear hcz29_0
       try clear hcz30_0
       try clear hcz45_0
       try clear hcz46_0
       try clear hcz49_0
       try clear hcz50_0
       try clear hfz14_0
       try clear hfz21_0
       try clear hfz25_0
       try clear hfz26_0
       try clear hfz29_0
       try clear hfz30_0
       try clear hfz45_0
       try clear hfz46_0
       try clear hfz49_0
       try clear hfz50_0
       try clear p2
       obtain ⟨kq, x61_36, rfl, HA, HJ36, HO_413000, HO_421000, BK412, BK420, HB⟩ := hcut
       cases kq with
       | zero => exact absurd HA.out (by simp [laws_FnExactRadixOf.j1])
       | succ kj36 =>
        have H := HA.out
        clear HA
        simp only [laws_FnExactRadixOf.j1] at H
        by_cases c52 : x61_36 = true
        ·
         subst c52
         have H1 : (some false) = some r := by rw [if_pos rfl] at H; exact H
         clear H
         have H := H1
         clear H1
         obtain rfl := Option.some.inj H
         go_wp2
         go_ret
         exact ⟨by first | rfl | (simp [errW_none, errW_some] <;> rfl) | (simp [*, errW_none, errW_some] <;> rfl), by repeat (first | (with_reducible first | exact HB.out | apply below_alloc | apply pw_below_drewN | apply below_drew1 | refine below_set ?_ GE412.out | refine below_set ?_ GE420.out) | exact HB.out)⟩
        ·
         replace c52 := Bool.eq_false_iff.mpr c52
         subst c52
         have H1 : ((laws_markRadix.f kj36 t416 1).bind fun bt429 => ((laws_heldRadix.f kj36 bt429.2 1).bind fun t431 => (if t431 < 0 then (some false) else (if t431 = bt429.1 then ((laws_toStringS.f kj36 l0).bind fun t432 => ((impl_RadixOf.f t432).bind fun bt435 => ((laws_eqRadix.f kj36 bt435.1 t408).bind fun t440 => (if t440 = true then (laws_FnExactRadixOf.j2 kj36 bt429.1 (bt435.2 != t411) bt429.2) else (laws_FnExactRadixOf.j2 kj36 bt429.1 true bt429.2))))) else (some false))))) = some r := by rw [if_neg (show ¬ (false = true) by decide)] at H; exact H
         clear H
         have H := H1
         clear H1
         replace H := Option.bind_eq_some_iff.mp H
         obtain ⟨⟨t429, t430⟩, A530, H⟩ := H
         replace H : ((laws_heldRadix.f kj36 t430 1).bind fun t431 => (if t431 < 0 then (some false) else (if t431 = t429 then ((laws_toStringS.f kj36 l0).bind fun t432 => ((impl_RadixOf.f t432).bind fun bt435 => ((laws_eqRadix.f kj36 bt435.1 t408).bind fun t440 => (if t440 = true then (laws_FnExactRadixOf.j2 kj36 t429 (bt435.2 != t411) t430) else (laws_FnExactRadixOf.j2 kj36 t429 true t430))))) else (some false)))) = some r := H
         have A53 := aM A530
         clear A530
         replace H := Option.bind_eq_some_iff.mp H
         obtain ⟨t431, A540, H⟩ := H
         replace H : (if t431 < 0 then (some false) else (if t431 = t429 then ((laws_toStringS.f kj36 l0).bind fun t432 => ((impl_RadixOf.f t432).bind fun bt435 => ((laws_eqRadix.f kj36 bt435.1 t408).bind fun t440 => (if t440 = true then (laws_FnExactRadixOf.j2 kj36 t429 (bt435.2 != t411) t430) else (laws_FnExactRadixOf.j2 kj36 t429 true t430))))) else (some false))) = some r := H
         have A54 := aM A540
         clear A540
         by_cases c55 : t431 < 0
         ·
          rw [if_pos c55] at H
          have c55b0 : decide (t431 < 0) = true := decide_eq_true c55
          clear c55
          obtain rfl := Option.some.inj H
          have hnb56 := NB420_412.out
          have hnc56 := NB412_420.out
          have hcz57_0 : wc.cell? ⟨gb420, 0, none⟩ = some (.slice Ao19 t416.length co19) := (blk_cell BK420.out 0).trans rfl
          have hfz57_0 := blk_frozen BK420.out 0
          go_wp2_with (first | ((with_reducible refine gate_callee (f := 18) rfl ?_); refine goesL_ (some 64) rfl rfl Try.func18 (by kernel_rfl) rfl #[.agg #[.slice Ao19 t416.length co19], .int .i64 1] rfl (by (try simp only [List.map_toArray, List.map_cons, List.map_nil]); first | done | rfl | (simp only [List.length_drop, List.length_take]; rfl)) ?_; (with_reducible refine (laws_markRadix.calls kj36 (fun k_ => some k_ = (.slice Ao19 t416.length co19 : Value).ownBlock) (.slice Ao19 t416.length co19) t416 1 t429 t430 w _ ?side1 ?side2 A53.out).mono ?_); (case side1 => repeat (first | (with_reducible first | exact HB.out | apply below_alloc | apply pw_below_drewN | apply below_drew1 | refine below_set ?_ GE412.out | refine below_set ?_ GE420.out) | exact HB.out)); (case side2 => exact Kd.R_tight rfl HO_421000.out); rintro e w58 ⟨rfl, hy0, hb, hkp⟩; refine ⟨_, rfl, ?_⟩; have n0_ := aM (Kd.R_mono (ok' := fun k_ => some k_ ≠ (.slice Ao19 t416.length co19 : Value).ownBlock) (Kd.R_keptB (HO_413000.out) hkp (fun k_ hk_ hs_ => (hk_) hs_)) (fun k_ hk_ => hk_.1)); have n1_ := aM (Kd.R_reok rfl hy0 (fun k_ e_ => HO_421000.out.1 k_ e_)); have n2_ := aM (blk_kept (by (with_reducible repeat (first | refine blk_drewN ?_ _ | refine blk_drew ?_ | refine blk_alloc ?_ _)); exact BK412.out) hkp (fun hs_ => (fun e_ => (Kd.R_ne HO_421000.out BK412.out (by decide)) e_) hs_)); have n3_ := aM (blk_kept (by (with_reducible repeat (first | refine blk_drewN ?_ _ | refine blk_drew ?_ | refine blk_alloc ?_ _)); exact BK420.out) hkp (fun hs_ => (fun e_ => (Kd.R_ne HO_421000.out BK420.out (by decide)) e_) hs_)); have n4_ := aM (hb); clear HO_413000; clear HO_421000; clear BK412; clear BK420; clear HB; have HO_413000 := n0_; have HO_421000 := n1_; have BK412 := n2_; have BK420 := n3_; have HB := n4_; clear n0_ n1_ n2_ n3_ n4_; (try clear hb); (try clear hkp); (try clear hy0); have hcz59_0 : w58.cell? ⟨gb420, 0, none⟩ = some (.slice Ao19 t416.length co19) := (blk_cell BK420.out 0).trans rfl; have hfz59_0 := blk_frozen BK420.out 0) | ((with_reducible refine gate_callee (f := 19) rfl ?_); refine goesL_ (some 67) rfl rfl Try.func19 (by kernel_rfl) rfl #[.agg #[.slice Ao19 t430.length co19], .int .i64 1] rfl (by (try simp only [List.map_toArray, List.map_cons, List.map_nil]); first | done | (rw [show t430.length = t416.length from (Kd.R_reads' HO_421000.out).1.symm] <;> rfl) | rfl | (simp only [List.length_drop, List.length_take]; rfl)) ?_; (with_reducible refine (laws_heldRadix.calls kj36 _ _ t430 1 t431 _ ?side1 ?side2 A54.out).mono ?_); (case side1 => repeat (first | exact (Kd.R_reads' HO_421000.out).2.2 | (with_reducible refine Kd.C_alloc ?_ _) | (with_reducible refine Kd.C_drewN ?_ _) | (with_reducible refine Kd.C_drew ?_))); (case side2 => rw [show t430.length = t416.length from (Kd.R_reads' HO_421000.out).1.symm]; exact (Kd.R_reads' HO_421000.out).2.1); rintro e w60 ⟨rfl, hb⟩; refine ⟨_, rfl, ?_⟩; have n0_ := aM (Kd.R_below (by (with_reducible repeat (first | apply Kd.R_alloc | apply Kd.R_drewN | apply Kd.R_drew)); exact HO_413000.out) hb); have n1_ := aM (Kd.R_below (by (with_reducible repeat (first | apply Kd.R_alloc | apply Kd.R_drewN | apply Kd.R_drew)); exact HO_421000.out) hb); have n2_ := aM (blk_below (g := gb412) (o := .cells #[.slice Ao13 t408.length co13] 26 (0, 0)) (by (with_reducible repeat (first | refine blk_drewN ?_ _ | refine blk_drew ?_ | refine blk_alloc ?_ _)); exact BK412.out) hb); have n3_ := aM (blk_below (g := gb420) (o := .cells #[.slice Ao19 t416.length co19] 26 (0, 0)) (by (with_reducible repeat (first | refine blk_drewN ?_ _ | refine blk_drew ?_ | refine blk_alloc ?_ _)); exact BK420.out) hb); have n4_ := aM (below_step (by repeat (first | (with_reducible first | exact HB.out | apply below_alloc | apply pw_below_drewN | apply below_drew1 | refine below_set ?_ GE412.out | refine below_set ?_ GE420.out) | exact HB.out)) hb); clear HO_413000; clear HO_421000; clear BK412; clear BK420; clear HB; have HO_413000 := n0_; have HO_421000 := n1_; have BK412 := n2_; have BK420 := n3_; have HB := n4_; clear n0_ n1_ n2_ n3_ n4_; (try clear hb); (try clear hb2); (try clear hk); (try clear hi)))
          go_ret
          exact ⟨by first | rfl | (simp [errW_none, errW_some] <;> rfl) | (simp [*, errW_none, errW_some] <;> rfl), by repeat (first | (with_reducible first | exact HB.out | apply below_alloc | apply pw_below_drewN | apply below_drew1 | refine below_set ?_ GE412.out | refine below_set ?_ GE420.out) | exact HB.out)⟩
         ·
          rw [if_neg c55] at H
          have c55b0 : decide (t431 < 0) = false := decide_eq_false c55
          clear c55
          by_cases c61 : t431 = t429
          ·
           rw [if_pos c61] at H
           have c61b0 : (t431 == t429) = true := beq_iff_eq.mpr c61
           have c61b1 : (t431 != t429) = false := bne_eq_false_iff_eq.mpr c61
           clear c61
           replace H := Option.bind_eq_some_iff.mp H
           obtain ⟨t432, A620, H⟩ := H
           replace H : ((impl_RadixOf.f t432).bind fun bt435 => ((laws_eqRadix.f kj36 bt435.1 t408).bind fun t440 => (if t440 = true then (laws_FnExactRadixOf.j2 kj36 t429 (bt435.2 != t411) t430) else (laws_FnExactRadixOf.j2 kj36 t429 true t430)))) = some r := H
           have A62 := aM A620
           clear A620
           replace H := Option.bind_eq_some_iff.mp H
           obtain ⟨⟨t435, t438⟩, A630, H⟩ := H
           replace H : ((laws_eqRadix.f kj36 t435 t408).bind fun t440 => (if t440 = true then (laws_FnExactRadixOf.j2 kj36 t429 (t438 != t411) t430) else (laws_FnExactRadixOf.j2 kj36 t429 true t430))) = some r := H
           have A63 := aM A630
           clear A630
           have HC64 := aM H
           clear H
           have hnb65 := NB420_412.out
           have hnc65 := NB412_420.out
           have hcz66_0 : wc.cell? ⟨gb420, 0, none⟩ = some (.slice Ao19 t416.length co19) := (blk_cell BK420.out 0).trans rfl
           have hfz66_0 := blk_frozen BK420.out 0
           go_upto_region 25 with (first | ((with_reducible refine gate_callee (f := 18) rfl ?_); refine goesL_ (some 64) rfl rfl Try.func18 (by kernel_rfl) rfl #[.agg #[.slice Ao19 t416.length co19], .int .i64 1] rfl (by (try simp only [List.map_toArray, List.map_cons, List.map_nil]); first | done | rfl | (simp only [List.length_drop, List.length_take]; rfl)) ?_; (with_reducible refine (laws_markRadix.calls kj36 (fun k_ => some k_ = (.slice Ao19 t416.length co19 : Value).ownBlock) (.slice Ao19 t416.length co19) t416 1 t429 t430 w _ ?side1 ?side2 A53.out).mono ?_); (case side1 => repeat (first | (with_reducible first | exact HB.out | apply below_alloc | apply pw_below_drewN | apply below_drew1 | refine below_set ?_ GE412.out | refine below_set ?_ GE420.out) | exact HB.out)); (case side2 => exact Kd.R_tight rfl HO_421000.out); rintro e w67 ⟨rfl, hy0, hb, hkp⟩; refine ⟨_, rfl, ?_⟩; have n0_ := aM (Kd.R_mono (ok' := fun k_ => some k_ ≠ (.slice Ao19 t416.length co19 : Value).ownBlock) (Kd.R_keptB (HO_413000.out) hkp (fun k_ hk_ hs_ => (hk_) hs_)) (fun k_ hk_ => hk_.1)); have n1_ := aM (Kd.R_reok rfl hy0 (fun k_ e_ => HO_421000.out.1 k_ e_)); have n2_ := aM (blk_kept (by (with_reducible repeat (first | refine blk_drewN ?_ _ | refine blk_drew ?_ | refine blk_alloc ?_ _)); exact BK412.out) hkp (fun hs_ => (fun e_ => (Kd.R_ne HO_421000.out BK412.out (by decide)) e_) hs_)); have n3_ := aM (blk_kept (by (with_reducible repeat (first | refine blk_drewN ?_ _ | refine blk_drew ?_ | refine blk_alloc ?_ _)); exact BK420.out) hkp (fun hs_ => (fun e_ => (Kd.R_ne HO_421000.out BK420.out (by decide)) e_) hs_)); have n4_ := aM (hb); clear HO_413000; clear HO_421000; clear BK412; clear BK420; clear HB; have HO_413000 := n0_; have HO_421000 := n1_; have BK412 := n2_; have BK420 := n3_; have HB := n4_; clear n0_ n1_ n2_ n3_ n4_; (try clear hb); (try clear hkp); (try clear hy0); have hcz68_0 : w67.cell? ⟨gb420, 0, none⟩ = some (.slice Ao19 t416.length co19) := (blk_cell BK420.out 0).trans rfl; have hfz68_0 := blk_frozen BK420.out 0) | ((with_reducible refine gate_callee (f := 19) rfl ?_); refine goesL_ (some 67) rfl rfl Try.func19 (by kernel_rfl) rfl #[.agg #[.slice Ao19 t430.length co19], .int .i64 1] rfl (by (try simp only [List.map_toArray, List.map_cons, List.map_nil]); first | done | (rw [show t430.length = t416.length from (Kd.R_reads' HO_421000.out).1.symm] <;> rfl) | rfl | (simp only [List.length_drop, List.length_take]; rfl)) ?_; (with_reducible refine (laws_heldRadix.calls kj36 _ _ t430 1 t431 _ ?side1 ?side2 A54.out).mono ?_); (case side1 => repeat (first | exact (Kd.R_reads' HO_421000.out).2.2 | (with_reducible refine Kd.C_alloc ?_ _) | (with_reducible refine Kd.C_drewN ?_ _) | (with_reducible refine Kd.C_drew ?_))); (case side2 => rw [show t430.length = t416.length from (Kd.R_reads' HO_421000.out).1.symm]; exact (Kd.R_reads' HO_421000.out).2.1); rintro e w69 ⟨rfl, hb⟩; refine ⟨_, rfl, ?_⟩; have n0_ := aM (Kd.R_below (by (with_reducible repeat (first | apply Kd.R_alloc | apply Kd.R_drewN | apply Kd.R_drew)); exact HO_413000.out) hb); have n1_ := aM (Kd.R_below (by (with_reducible repeat (first | apply Kd.R_alloc | apply Kd.R_drewN | apply Kd.R_drew)); exact HO_421000.out) hb); have n2_ := aM (blk_below (g := gb412) (o := .cells #[.slice Ao13 t408.length co13] 26 (0, 0)) (by (with_reducible repeat (first | refine blk_drewN ?_ _ | refine blk_drew ?_ | refine blk_alloc ?_ _)); exact BK412.out) hb); have n3_ := aM (blk_below (g := gb420) (o := .cells #[.slice Ao19 t416.length co19] 26 (0, 0)) (by (with_reducible repeat (first | refine blk_drewN ?_ _ | refine blk_drew ?_ | refine blk_alloc ?_ _)); exact BK420.out) hb); have n4_ := aM (below_step (by repeat (first | (with_reducible first | exact HB.out | apply below_alloc | apply pw_below_drewN | apply below_drew1 | refine below_set ?_ GE412.out | refine below_set ?_ GE420.out) | exact HB.out)) hb); clear HO_413000; clear HO_421000; clear BK412; clear BK420; clear HB; have HO_413000 := n0_; have HO_421000 := n1_; have BK412 := n2_; have BK420 := n3_; have HB := n4_; clear n0_ n1_ n2_ n3_ n4_; (try clear hb); (try clear hb2); (try clear hk); (try clear hi)) | ((with_reducible refine gate_callee (f := 13) rfl ?_); refine goesL_ (some 75) rfl rfl Try.func13 (by kernel_rfl) rfl #[.slice A0 l0.length c0] rfl (by (try simp only [List.map_toArray, List.map_cons, List.map_nil]); first | done | rfl | (simp only [List.length_drop, List.length_take]; rfl)) ?_; (with_reducible refine (laws_toStringS.calls kj36 _ _ l0 t432 _ ?side1 ?side2 A62.out).mono ?_); (case side1 => repeat (first | exact (Kd.C_below HR0.out HB.out) | (with_reducible refine Kd.C_alloc ?_ _) | (with_reducible refine Kd.C_drewN ?_ _) | (with_reducible refine Kd.C_drew ?_))); (case side2 => exact HC0.out); rintro e w70 ⟨v433, rfl, ho0, hb⟩; refine ⟨_, rfl, ?_⟩; have n0_ := aM (Kd.R_below (by (with_reducible repeat (first | apply Kd.R_alloc | apply Kd.R_drewN | apply Kd.R_drew)); exact HO_413000.out) hb); have n1_ := aM (Kd.R_below (by (with_reducible repeat (first | apply Kd.R_alloc | apply Kd.R_drewN | apply Kd.R_drew)); exact HO_421000.out) hb); have n2_ := aM (Kd.R_lower ho0 (below_size (by repeat (first | (with_reducible first | exact HB.out | apply below_alloc | apply pw_below_drewN | apply below_drew1 | refine below_set ?_ GE412.out | refine below_set ?_ GE420.out) | exact HB.out)))); have n3_ := aM (blk_below (g := gb412) (o := .cells #[.slice Ao13 t408.length co13] 26 (0, 0)) (by (with_reducible repeat (first | refine blk_drewN ?_ _ | refine blk_drew ?_ | refine blk_alloc ?_ _)); exact BK412.out) hb); have n4_ := aM (blk_below (g := gb420) (o := .cells #[.slice Ao19 t416.length co19] 26 (0, 0)) (by (with_reducible repeat (first | refine blk_drewN ?_ _ | refine blk_drew ?_ | refine blk_alloc ?_ _)); exact BK420.out) hb); have n5_ := aM (below_step (by repeat (first | (with_reducible first | exact HB.out | apply below_alloc | apply pw_below_drewN | apply below_drew1 | refine below_set ?_ GE412.out | refine below_set ?_ GE420.out) | exact HB.out)) hb); clear HO_413000; clear HO_421000; clear BK412; clear BK420; clear HB; have HO_413000 := n0_; have HO_421000 := n1_; have HO434 := n2_; have BK412 := n3_; have BK420 := n4_; have HB := n5_; clear n0_ n1_ n2_ n3_ n4_ n5_; (try clear hb); (try clear hb2); (try clear hk); (try clear hi); (try clear ho0); obtain ⟨Ao71, co71, eo71⟩ := Kd.R_slice HO434.out; subst eo71) | ((with_reducible refine gate_callee (f := 14) rfl ?_); refine goesL_ (some 76) rfl rfl Try.func14 (by kernel_rfl) rfl #[.slice Ao71 t432.length co71] rfl (by (try simp only [List.map_toArray, List.map_cons, List.map_nil]); first | done | rfl | (simp only [List.length_drop, List.length_take]; rfl)) ?_; (with_reducible refine (impl_RadixOf.calls _ _ t432 t435 t438 _ ?side1 ?side2 A63.out).mono ?_); (case side1 => repeat (first | exact (Kd.R_reads' HO434.out).2.2 | (with_reducible refine Kd.C_alloc ?_ _) | (with_reducible refine Kd.C_drewN ?_ _) | (with_reducible refine Kd.C_drew ?_))); (case side2 => exact (Kd.R_reads' HO434.out).2.1); rintro e w72 ⟨v436, rfl, ho0, hb⟩; refine ⟨_, rfl, ?_⟩; have n0_ := aM (Kd.R_elder' (by (with_reducible repeat (first | apply Kd.R_alloc | apply Kd.R_drewN | apply Kd.R_drew)); exact HO_413000.out) (Kd.R_base ho0) hb); have n1_ := aM (Kd.R_elder' (by (with_reducible repeat (first | apply Kd.R_alloc | apply Kd.R_drewN | apply Kd.R_drew)); exact HO_421000.out) (Kd.R_base ho0) hb); have n2_ := aM (Kd.R_below (by (with_reducible repeat (first | apply Kd.R_alloc | apply Kd.R_drewN | apply Kd.R_drew)); exact HO434.out) hb); have n3_ := aM (Kd.R_lower (Kd.R_new' (Kd.R_new' ho0 (Kd.R_lt (by (with_reducible repeat (first | apply Kd.R_alloc | apply Kd.R_drewN | apply Kd.R_drew)); exact HO_413000.out))) (Kd.R_lt (by (with_reducible repeat (first | apply Kd.R_alloc | apply Kd.R_drewN | apply Kd.R_drew)); exact HO_421000.out))) (below_size (by repeat (first | (with_reducible first | exact HB.out | apply below_alloc | apply pw_below_drewN | apply below_drew1 | refine below_set ?_ GE412.out | refine below_set ?_ GE420.out) | exact HB.out)))); have n4_ := aM (blk_below (g := gb412) (o := .cells #[.slice Ao13 t408.length co13] 26 (0, 0)) (by (with_reducible repeat (first | refine blk_drewN ?_ _ | refine blk_drew ?_ | refine blk_alloc ?_ _)); exact BK412.out) hb); have n5_ := aM (blk_below (g := gb420) (o := .cells #[.slice Ao19 t416.length co19] 26 (0, 0)) (by (with_reducible repeat (first | refine blk_drewN ?_ _ | refine blk_drew ?_ | refine blk_alloc ?_ _)); exact BK420.out) hb); have n6_ := aM (below_step (by repeat (first | (with_reducible first | exact HB.out | apply below_alloc | apply pw_below_drewN | apply below_drew1 | refine below_set ?_ GE412.out | refine below_set ?_ GE420.out) | exact HB.out)) hb); clear HO_413000; clear HO_421000; clear HO434; clear BK412; clear BK420; clear HB; have HO_413000 := n0_; have HO_421000 := n1_; have HO434 := n2_; have HO437 := n3_; have BK412 := n4_; have BK420 := n5_; have HB := n6_; clear n0_ n1_ n2_ n3_ n4_ n5_ n6_; (try clear hb); (try clear hb2); (try clear hk); (try clear hi); (try clear ho0)) | ((with_reducible refine gate_dst (N := 12) rfl ?_); refine box_event ?hg (N := 12) ?hd (cs := #[.slice none 0 0]) (t := 26) ?hr ?_; (case hd => rfl); (case hg => rfl); (case hr => first | (go_simp; done) | (go_simp; rfl)); intro gb439 hg w73 hbox hb; have n0_ := aM (Kd.R_below (by (with_reducible repeat (first | apply Kd.R_alloc | apply Kd.R_drewN | apply Kd.R_drew)); exact HO_413000.out) hb); have n1_ := aM (Kd.R_below (by (with_reducible repeat (first | apply Kd.R_alloc | apply Kd.R_drewN | apply Kd.R_drew)); exact HO_421000.out) hb); have n2_ := aM (Kd.R_below (by (with_reducible repeat (first | apply Kd.R_alloc | apply Kd.R_drewN | apply Kd.R_drew)); exact HO434.out) hb); have n3_ := aM (Kd.R_below (by (with_reducible repeat (first | apply Kd.R_alloc | apply Kd.R_drewN | apply Kd.R_drew)); exact HO437.out) hb); have n4_ := aM (blk_below (g := gb412) (o := .cells #[.slice Ao13 t408.length co13] 26 (0, 0)) (by (with_reducible repeat (first | refine blk_drewN ?_ _ | refine blk_drew ?_ | refine blk_alloc ?_ _)); exact BK412.out) hb); have n5_ := aM (blk_below (g := gb420) (o := .cells #[.slice Ao19 t416.length co19] 26 (0, 0)) (by (with_reducible repeat (first | refine blk_drewN ?_ _ | refine blk_drew ?_ | refine blk_alloc ?_ _)); exact BK420.out) hb); have n6_ := aM (below_step (by repeat (first | (with_reducible first | exact HB.out | apply below_alloc | apply pw_below_drewN | apply below_drew1 | refine below_set ?_ GE412.out | refine below_set ?_ GE420.out) | exact HB.out)) hb); have n7_ := aM (hbox); have n8_ := aM ((by rw [hg]; exact (below_size (by repeat (first | (with_reducible first | exact HB.out | apply below_alloc | apply pw_below_drewN | apply below_drew1 | refine below_set ?_ GE412.out | refine below_set ?_ GE420.out) | exact HB.out))) : w.heap.size ≤ gb439)); have n9_ := aM ((by rw [hg]; exact (below_size (by repeat (first | (with_reducible first | exact HB.out | apply below_alloc | apply pw_below_drewN | apply below_drew1 | refine below_set ?_ GE412.out | refine below_set ?_ GE420.out) | exact HB.out))) : w.heap.size ≤ gb439)); have n10_ := aM ((by rw [hg]; exact Nat.ne_of_lt (blk_lt (g := gb412) (o := .cells #[.slice Ao13 t408.length co13] 26 (0, 0)) (by (with_reducible repeat (first | refine blk_drewN ?_ _ | refine blk_drew ?_ | refine blk_alloc ?_ _)); exact BK412.out)) : gb412 ≠ gb439)); have n11_ := aM ((by rw [hg]; exact Nat.ne_of_gt (blk_lt (g := gb412) (o := .cells #[.slice Ao13 t408.length co13] 26 (0, 0)) (by (with_reducible repeat (first | refine blk_drewN ?_ _ | refine blk_drew ?_ | refine blk_alloc ?_ _)); exact BK412.out)) : gb439 ≠ gb412)); have n12_ := aM ((by rw [hg]; exact Nat.ne_of_lt (blk_lt (g := gb420) (o := .cells #[.slice Ao19 t416.length co19] 26 (0, 0)) (by (with_reducible repeat (first | refine blk_drewN ?_ _ | refine blk_drew ?_ | refine blk_alloc ?_ _)); exact BK420.out)) : gb420 ≠ gb439)); have n13_ := aM ((by rw [hg]; exact Nat.ne_of_gt (blk_lt (g := gb420) (o := .cells #[.slice Ao19 t416.length co19] 26 (0, 0)) (by (with_reducible repeat (first | refine blk_drewN ?_ _ | refine blk_drew ?_ | refine blk_alloc ?_ _)); exact BK420.out)) : gb439 ≠ gb420)); clear HO_413000; clear HO_421000; clear HO434; clear HO437; clear BK412; clear BK420; clear HB; have HO_413000 := n0_; have HO_421000 := n1_; have HO434 := n2_; have HO437 := n3_; have BK412 := n4_; have BK420 := n5_; have HB := n6_; have BK439 := n7_; have GW439 := n8_; have GE439 := n9_; have NB412_439 := n10_; have NB439_412 := n11_; have NB420_439 := n12_; have NB439_420 := n13_; clear n0_ n1_ n2_ n3_ n4_ n5_ n6_ n7_ n8_ n9_ n10_ n11_ n12_ n13_; clear hb hbox hg; obtain ⟨Ao74, co74, eo74⟩ := Kd.R_slice HO437.out; subst eo74; have hnb75 := NB439_412.out; have hnc75 := NB412_439.out; have hnb76 := NB439_420.out; have hnc76 := NB420_439.out; have hcz77_0 : w73.cell? ⟨gb439, 0, none⟩ = some (.slice none 0 0) := (blk_cell BK439.out 0).trans rfl; have hfz77_0 := blk_frozen BK439.out 0))
           (try simp only [Act.put, zSA, zSB, zSC])
           go_cut [87] (fun v87 wc => ∃ (kq : Nat) (x87_63 : Bool), v87 = .bool x87_63 ∧ Aside0 (laws_FnExactRadixOf.j2 kq t429 x87_63 t430 = some r) ∧ Aside0 (kq ≤ kj36) ∧ Aside0 (Kd.R k64 64 wc w.heap.size (fun k_ => some k_ ≠ ((.slice Ao19 t416.length co19) : Value).ownBlock ∧ some k_ ≠ ((.slice Ao74 t435.length co74) : Value).ownBlock) (.slice Ao13 t408.length co13) t408) ∧ Aside0 (Kd.R k64 64 wc w.heap.size (fun k_ => some k_ ≠ ((.slice Ao13 t408.length co13) : Value).ownBlock ∧ some k_ ≠ ((.slice Ao74 t435.length co74) : Value).ownBlock) (.slice Ao19 t416.length co19) t430) ∧ Aside0 (Kd.R k64 64 wc w.heap.size (fun k_ => some k_ ≠ ((.slice Ao13 t408.length co13) : Value).ownBlock ∧ some k_ ≠ ((.slice Ao19 t416.length co19) : Value).ownBlock) (.slice Ao74 t435.length co74) t435) ∧ Aside0 (wc.heap[gb412]? = some (.cells #[(.slice Ao13 t408.length co13)] 26 (0, 0))) ∧ Aside0 (wc.heap[gb420]? = some (.cells #[(.slice Ao19 t416.length co19)] 26 (0, 0))) ∧ Aside0 (wc.heap[gb439]? = some (.cells #[(.slice Ao74 t435.length co74)] 26 (0, 0))) ∧ Aside0 (Below w.heap.size w wc))
           case first =>
            have H := HC64.out
            clear HC64
            replace H := Option.bind_eq_some_iff.mp H
            obtain ⟨t440, A780, H⟩ := H
            replace H : (if t440 = true then (laws_FnExactRadixOf.j2 kj36 t429 (t438 != t411) t430) else (laws_FnExactRadixOf.j2 kj36 t429 true t430)) = some r := H
            have A78 := aM A780
            clear A780
            by_cases c79 : t440 = true
            ·
             subst c79
             have H1 : (laws_FnExactRadixOf.j2 kj36 t429 (t438 != t411) t430) = some r := by rw [if_pos rfl] at H; exact H
             clear H
             have H := H1
             clear H1
             have H' := aM H
             clear H
             have hnb80 := NB439_412.out
             have hnc80 := NB412_439.out
             have hnb81 := NB439_420.out
             have hnc81 := NB420_439.out
             have hcz82_0 : w73.cell? ⟨gb439, 0, none⟩ = some (.slice none 0 0) := (blk_cell BK439.out 0).trans rfl
             have hfz82_0 := blk_frozen BK439.out 0
             have hnb83 := NB412_420.out
             have hnc83 := NB420_412.out
             have hcz84_0 : w73.cell? ⟨gb412, 0, none⟩ = some (.slice Ao13 t408.length co13) := (blk_cell BK412.out 0).trans rfl
             have hfz84_0 := blk_frozen BK412.out 0
             go_wp2_with (first | ((with_reducible refine gate_callee (f := 15) rfl ?_); refine goesL_ (some 81) rfl rfl Try.func15 (by kernel_rfl) rfl #[.agg #[.slice Ao74 t435.length co74], .agg #[.slice Ao13 t408.length co13]] rfl (by (try simp only [List.map_toArray, List.map_cons, List.map_nil]); first | done | rfl | (simp only [List.length_drop, List.length_take]; rfl)) ?_; (with_reducible refine (laws_eqRadix.calls kj36 _ _ t435 _ _ t408 true _ ?side1 ?side2 ?side3 ?side4 A78.out).mono ?_); (case side1 => refine (Kd.R_reads' (e := 64) (base := w.heap.size) (ok := fun k_ => ((True ∧ some k_ ≠ (.slice Ao13 t408.length co13 : Value).ownBlock) ∧ some k_ ≠ (.slice Ao19 t416.length co19 : Value).ownBlock)) (n := t435.length) (c := co74) ?_).2.2; exact (by (with_reducible repeat (first | apply Kd.R_alloc | apply Kd.R_drewN | apply Kd.R_drew)); exact (Kd.R_mono (Kd.R_far (p := ⟨gb439, 0, none⟩) (Kd.R_types HO437.out BK439.out (by decide)) (fun _ hk => hk.2) (.slice Ao74 t435.length co74)) (fun _ h_ => h_.1)))); (case side2 => exact (Kd.R_reads' HO437.out).2.1); (case side3 => refine (Kd.R_reads' (e := 64) (base := w.heap.size) (ok := fun k_ => (some k_ ≠ (.slice Ao19 t416.length co19 : Value).ownBlock ∧ some k_ ≠ (.slice Ao74 t435.length co74 : Value).ownBlock)) (n := t408.length) (c := co13) ?_).2.2; exact (by (with_reducible repeat (first | apply Kd.R_alloc | apply Kd.R_drewN | apply Kd.R_drew)); exact (Kd.R_mono (Kd.R_far (p := ⟨gb439, 0, none⟩) (Kd.R_types HO_413000.out BK439.out (by decide)) (fun _ hk => hk.2) (.slice Ao74 t435.length co74)) (fun _ h_ => h_.1)))); (case side4 => exact (Kd.R_reads' HO_413000.out).2.1); rintro e w85 ⟨rfl, hb⟩; refine ⟨_, rfl, ?_⟩; have n0_ := aM (Kd.R_below (by (with_reducible repeat (first | apply Kd.R_alloc | apply Kd.R_drewN | apply Kd.R_drew)); exact (Kd.R_mono (Kd.R_far (p := ⟨gb439, 0, none⟩) (Kd.R_types HO_413000.out BK439.out (by decide)) (fun _ hk => hk.2) (.slice Ao74 t435.length co74)) (fun _ h_ => h_.1))) hb); have n1_ := aM (Kd.R_below (by (with_reducible repeat (first | apply Kd.R_alloc | apply Kd.R_drewN | apply Kd.R_drew)); exact (Kd.R_mono (Kd.R_far (p := ⟨gb439, 0, none⟩) (Kd.R_types HO_421000.out BK439.out (by decide)) (fun _ hk => hk.2) (.slice Ao74 t435.length co74)) (fun _ h_ => h_.1))) hb); have n2_ := aM (Kd.R_below (by (with_reducible repeat (first | apply Kd.R_alloc | apply Kd.R_drewN | apply Kd.R_drew)); exact (Kd.R_mono (Kd.R_far (p := ⟨gb439, 0, none⟩) (Kd.R_types HO434.out BK439.out (by decide)) (fun _ hk => hk.2) (.slice Ao74 t435.length co74)) (fun _ h_ => h_.1))) hb); have n3_ := aM (Kd.R_below (by (with_reducible repeat (first | apply Kd.R_alloc | apply Kd.R_drewN | apply Kd.R_drew)); exact (Kd.R_mono (Kd.R_far (p := ⟨gb439, 0, none⟩) (Kd.R_types HO437.out BK439.out (by decide)) (fun _ hk => hk.2) (.slice Ao74 t435.length co74)) (fun _ h_ => h_.1))) hb); have n4_ := aM (blk_below (g := gb412) (o := .cells #[.slice Ao13 t408.length co13] 26 (0, 0)) (by (with_reducible repeat (first | refine blk_drewN ?_ _ | refine blk_drew ?_ | refine blk_alloc ?_ _)); refine blk_far ?_ NB412_439.out _; (with_reducible repeat (first | refine blk_drewN ?_ _ | refine blk_drew ?_ | refine blk_alloc ?_ _)); exact BK412.out) hb); have n5_ := aM (blk_below (g := gb420) (o := .cells #[.slice Ao19 t416.length co19] 26 (0, 0)) (by (with_reducible repeat (first | refine blk_drewN ?_ _ | refine blk_drew ?_ | refine blk_alloc ?_ _)); refine blk_far ?_ NB420_439.out _; (with_reducible repeat (first | refine blk_drewN ?_ _ | refine blk_drew ?_ | refine blk_alloc ?_ _)); exact BK420.out) hb); have n6_ := aM (blk_below (g := gb439) (o := .cells #[.slice Ao74 t435.length co74] 26 (0, 0)) (by (with_reducible repeat (first | refine blk_drewN ?_ _ | refine blk_drew ?_ | refine blk_alloc ?_ _)); refine blk_put (cs := #[.slice none 0 0]) ?_ 0 _ rfl; (with_reducible repeat (first | refine blk_drewN ?_ _ | refine blk_drew ?_ | refine blk_alloc ?_ _)); exact BK439.out) hb); have n7_ := aM (below_step (by repeat (first | (with_reducible first | exact HB.out | apply below_alloc | apply pw_below_drewN | apply below_drew1 | refine below_set ?_ GE412.out | refine below_set ?_ GE420.out | refine below_set ?_ GE439.out) | exact HB.out)) hb); clear HO_413000; clear HO_421000; clear HO434; clear HO437; clear BK412; clear BK420; clear BK439; clear HB; have HO_413000 := n0_; have HO_421000 := n1_; have HO434 := n2_; have HO437 := n3_; have BK412 := n4_; have BK420 := n5_; have BK439 := n6_; have HB := n7_; clear n0_ n1_ n2_ n3_ n4_ n5_ n6_ n7_; (try clear hb); (try clear hb2); (try clear hk); (try clear hi)))
             go_meet
             case rel => exact ⟨_, ((t438 != t411)), (by first | rfl | (simp; done) | (simp [*]; done)), H', ⟨by have := HJ7.out; have := HJ36.out; first | omega | exact Nat.le_refl _⟩, ⟨by (with_reducible repeat (first | apply Kd.R_alloc | apply Kd.R_drewN | apply Kd.R_drew)); exact HO_413000.out⟩, ⟨by (with_reducible repeat (first | apply Kd.R_alloc | apply Kd.R_drewN | apply Kd.R_drew)); exact HO_421000.out⟩, ⟨by (with_reducible repeat (first | apply Kd.R_alloc | apply Kd.R_drewN | apply Kd.R_drew)); exact Kd.R_mono HO437.out (fun _ hk => ⟨hk.1.2, hk.2⟩)⟩, ⟨by (with_reducible repeat (first | refine blk_drewN ?_ _ | refine blk_drew ?_ | refine blk_alloc ?_ _)); exact BK412.out⟩, ⟨by (with_reducible repeat (first | refine blk_drewN ?_ _ | refine blk_drew ?_ | refine blk_alloc ?_ _)); exact BK420.out⟩, ⟨by (with_reducible repeat (first | refine blk_drewN ?_ _ | refine blk_drew ?_ | refine blk_alloc ?_ _)); exact BK439.out⟩, ⟨by repeat (first | (with_reducible first | exact HB.out | apply below_alloc | apply pw_below_drewN | apply below_drew1 | refine below_set ?_ GE412.out | refine below_set ?_ GE420.out | refine below_set ?_ GE439.out) | exact HB.out)⟩⟩
            ·
             replace c79 := Bool.eq_false_iff.mpr c79
             subst c79
             have H1 : (laws_FnExactRadixOf.j2 kj36 t429 true t430) = some r := by rw [if_neg (show ¬ (false = true) by decide)] at H; exact H
             clear H
             have H := H1
             clear H1
             have H' := aM H
             clear H
             have hnb86 := NB439_412.out
             have hnc86 := NB412_439.out
             have hnb87 := NB439_420.out
             have hnc87 := NB420_439.out
             have hcz88_0 : w73.cell? ⟨gb439, 0, none⟩ = some (.slice none 0 0) := (blk_cell BK439.out 0).trans rfl
             have hfz88_0 := blk_frozen BK439.out 0
             have hnb89 := NB412_420.out
             have hnc89 := NB420_412.out
             have hcz90_0 : w73.cell? ⟨gb412, 0, none⟩ = some (.slice Ao13 t408.length co13) := (blk_cell BK412.out 0).trans rfl
             have hfz90_0 := blk_frozen BK412.out 0
             go_wp2_with (first | ((with_reducible refine gate_callee (f := 15) rfl ?_); refine goesL_ (some 81) rfl rfl Try.func15 (by kernel_rfl) rfl #[.agg #[.slice Ao74 t435.length co74], .agg #[.slice Ao13 t408.length co13]] rfl (by (try simp only [List.map_toArray, List.map_cons, List.map_nil]); first | done | rfl | (simp only [List.length_drop, List.length_take]; rfl)) ?_; (with_reducible refine (laws_eqRadix.calls kj36 _ _ t435 _ _ t408 false _ ?side1 ?side2 ?side3 ?side4 A78.out).mono ?_); (case side1 => refine (Kd.R_reads' (e := 64) (base := w.heap.size) (ok := fun k_ => ((True ∧ some k_ ≠ (.slice Ao13 t408.length co13 : Value).ownBlock) ∧ some k_ ≠ (.slice Ao19 t416.length co19 : Value).ownBlock)) (n := t435.length) (c := co74) ?_).2.2; exact (by (with_reducible repeat (first | apply Kd.R_alloc | apply Kd.R_drewN | apply Kd.R_drew)); exact (Kd.R_mono (Kd.R_far (p := ⟨gb439, 0, none⟩) (Kd.R_types HO437.out BK439.out (by decide)) (fun _ hk => hk.2) (.slice Ao74 t435.length co74)) (fun _ h_ => h_.1)))); (case side2 => exact (Kd.R_reads' HO437.out).2.1); (case side3 => refine (Kd.R_reads' (e := 64) (base := w.heap.size) (ok := fun k_ => (some k_ ≠ (.slice Ao19 t416.length co19 : Value).ownBlock ∧ some k_ ≠ (.slice Ao74 t435.length co74 : Value).ownBlock)) (n := t408.length) (c := co13) ?_).2.2; exact (by (with_reducible repeat (first | apply Kd.R_alloc | apply Kd.R_drewN | apply Kd.R_drew)); exact (Kd.R_mono (Kd.R_far (p := ⟨gb439, 0, none⟩) (Kd.R_types HO_413000.out BK439.out (by decide)) (fun _ hk => hk.2) (.slice Ao74 t435.length co74)) (fun _ h_ => h_.1)))); (case side4 => exact (Kd.R_reads' HO_413000.out).2.1); rintro e w91 ⟨rfl, hb⟩; refine ⟨_, rfl, ?_⟩; have n0_ := aM (Kd.R_below (by (with_reducible repeat (first | apply Kd.R_alloc | apply Kd.R_drewN | apply Kd.R_drew)); exact (Kd.R_mono (Kd.R_far (p := ⟨gb439, 0, none⟩) (Kd.R_types HO_413000.out BK439.out (by decide)) (fun _ hk => hk.2) (.slice Ao74 t435.length co74)) (fun _ h_ => h_.1))) hb); have n1_ := aM (Kd.R_below (by (with_reducible repeat (first | apply Kd.R_alloc | apply Kd.R_drewN | apply Kd.R_drew)); exact (Kd.R_mono (Kd.R_far (p := ⟨gb439, 0, none⟩) (Kd.R_types HO_421000.out BK439.out (by decide)) (fun _ hk => hk.2) (.slice Ao74 t435.length co74)) (fun _ h_ => h_.1))) hb); have n2_ := aM (Kd.R_below (by (with_reducible repeat (first | apply Kd.R_alloc | apply Kd.R_drewN | apply Kd.R_drew)); exact (Kd.R_mono (Kd.R_far (p := ⟨gb439, 0, none⟩) (Kd.R_types HO434.out BK439.out (by decide)) (fun _ hk => hk.2) (.slice Ao74 t435.length co74)) (fun _ h_ => h_.1))) hb); have n3_ := aM (Kd.R_below (by (with_reducible repeat (first | apply Kd.R_alloc | apply Kd.R_drewN | apply Kd.R_drew)); exact (Kd.R_mono (Kd.R_far (p := ⟨gb439, 0, none⟩) (Kd.R_types HO437.out BK439.out (by decide)) (fun _ hk => hk.2) (.slice Ao74 t435.length co74)) (fun _ h_ => h_.1))) hb); have n4_ := aM (blk_below (g := gb412) (o := .cells #[.slice Ao13 t408.length co13] 26 (0, 0)) (by (with_reducible repeat (first | refine blk_drewN ?_ _ | refine blk_drew ?_ | refine blk_alloc ?_ _)); refine blk_far ?_ NB412_439.out _; (with_reducible repeat (first | refine blk_drewN ?_ _ | refine blk_drew ?_ | refine blk_alloc ?_ _)); exact BK412.out) hb); have n5_ := aM (blk_below (g := gb420) (o := .cells #[.slice Ao19 t416.length co19] 26 (0, 0)) (by (with_reducible repeat (first | refine blk_drewN ?_ _ | refine blk_drew ?_ | refine blk_alloc ?_ _)); refine blk_far ?_ NB420_439.out _; (with_reducible repeat (first | refine blk_drewN ?_ _ | refine blk_drew ?_ | refine blk_alloc ?_ _)); exact BK420.out) hb); have n6_ := aM (blk_below (g := gb439) (o := .cells #[.slice Ao74 t435.length co74] 26 (0, 0)) (by (with_reducible repeat (first | refine blk_drewN ?_ _ | refine blk_drew ?_ | refine blk_alloc ?_ _)); refine blk_put (cs := #[.slice none 0 0]) ?_ 0 _ rfl; (with_reducible repeat (first | refine blk_drewN ?_ _ | refine blk_drew ?_ | refine blk_alloc ?_ _)); exact BK439.out) hb); have n7_ := aM (below_step (by repeat (first | (with_reducible first | exact HB.out | apply below_alloc | apply pw_below_drewN | apply below_drew1 | refine below_set ?_ GE412.out | refine below_set ?_ GE420.out | refine below_set ?_ GE439.out) | exact HB.out)) hb); clear HO_413000; clear HO_421000; clear HO434; clear HO437; clear BK412; clear BK420; clear BK439; clear HB; have HO_413000 := n0_; have HO_421000 := n1_; have HO434 := n2_; have HO437 := n3_; have BK412 := n4_; have BK420 := n5_; have BK439 := n6_; have HB := n7_; clear n0_ n1_ n2_ n3_ n4_ n5_ n6_ n7_; (try clear hb); (try clear hb2); (try clear hk); (try clear hi)))
             go_meet
             case rel => exact ⟨_, (true), (by first | rfl | (simp; done) | (simp [*]; done)), H', ⟨by have := HJ7.out; have := HJ36.out; first | omega | exact Nat.le_refl _⟩, ⟨by (with_reducible repeat (first | apply Kd.R_alloc | apply Kd.R_drewN | apply Kd.R_drew)); exact HO_413000.out⟩, ⟨by (with_reducible repeat (first | apply Kd.R_alloc | apply Kd.R_drewN | apply Kd.R_drew)); exact HO_421000.out⟩, ⟨by (with_reducible repeat (first | apply Kd.R_alloc | apply Kd.R_drewN | apply Kd.R_drew)); exact Kd.R_mono HO437.out (fun _ hk => ⟨hk.1.2, hk.2⟩)⟩, ⟨by (with_reducible repeat (first | refine blk_drewN ?_ _ | refine blk_drew ?_ | refine blk_alloc ?_ _)); exact BK412.out⟩, ⟨by (with_reducible repeat (first | refine blk_drewN ?_ _ | refine blk_drew ?_ | refine blk_alloc ?_ _)); exact BK420.out⟩, ⟨by (with_reducible repeat (first | refine blk_drewN ?_ _ | refine blk_drew ?_ | refine blk_alloc ?_ _)); exact BK439.out⟩, ⟨by repeat (first | (with_reducible first | exact HB.out | apply below_alloc | apply pw_below_drewN | apply below_drew1 | refine below_set ?_ GE412.out | refine below_set ?_ GE420.out | refine below_set ?_ GE439.out) | exact HB.out)⟩⟩
           case rest =>
            clear HC64
            try clear c1
            try clear c2
            try clear p2
            try clear c3
            try clear c3b0
            try clear c4
            try clear c5
            try clear c6
            try clear c7
            try clear c8
            try clear c11
            try clear c12
            try clear c13
            try clear c14
            try clear c15
            try clear c16
            try clear c17
            try clear c18
            try clear c19
            try clear c20
            try clear c23
            try clear c24
            try clear c28
            try clear c32
            try clear c35
            try clear c41
            try clear c41b0
            try clear c43
            try clear c44
            try clear c48
            try clear c52
            try clear c55
            try clear c55b0
            try clear c56
            try clear c61
            try clear c61b0
            try clear c61b1
            try clear c65
            try clear c75
            try clear c76
            try clear c79
            try clear c80
            try clear c81
            try clear c83
            try clear c86
            try clear c87
            try clear c89
            try clear hcz14_0
            try clear hcz21_0
            try clear hcz25_0
            try clear hcz26_0
            try clear hcz29_0
            try clear hcz30_0
            try clear hcz45_0
            try clear hcz46_0
            try clear hcz49_0
            try clear hcz50_0
            try clear hcz57_0
            try clear hcz59_0
            try clear hcz66_0
            try clear hcz68_0
            try clear hcz77_0
            try clear hcz82_0
            try clear hcz84_0
            try clear hcz88_0
            try clear hcz90_0
            try clear hfz14_0
            try clear hfz21_0
            try clear hfz25_0
            try clear hfz26_0
            try clear hfz29_0
            try clear hfz30_0
            try clear hfz45_0
            try clear hfz46_0
            try clear hfz49_0
            try clear hfz50_0
            try clear hfz57_0
            try clear hfz59_0
            try clear hfz66_0
            try clear hfz68_0
            try clear hfz77_0
            try clear hfz82_0
            try clear hfz84_0
            try clear hfz88_0
            try clear hfz90_0
            try clear p2
            obtain ⟨kq, x87_63, rfl, HA, HJ63, HO_413000, HO_421000, HO_440000, BK412, BK420, BK439, HB⟩ := hcut
            have hl421000_63 := (Kd.R_reads' HO_421000.out).1
            rw [hl421000_63] at HO_421000
            (try simp only [hl421000_63])
            (try simp only [hl421000_63] at BK412)
            (try simp only [hl421000_63] at BK420)
            (try simp only [hl421000_63] at BK439)
            (try simp only [hl421000_63] at HO_413000)
            (try simp only [hl421000_63] at HO_440000)
            cases kq with
            | zero => exact absurd HA.out (by simp [laws_FnExactRadixOf.j2])
            | succ kj63 =>
             have H := HA.out
             clear HA
             simp only [laws_FnExactRadixOf.j2] at H
             by_cases c92 : x87_63 = true
             ·
              subst c92
              have H1 : (some false) = some r := by rw [if_pos rfl] at H; exact H
              clear H
              have H := H1
              clear H1
              obtain rfl := Option.some.inj H
              go_wp2
              go_ret
              exact ⟨by first | rfl | (simp [errW_none, errW_some] <;> rfl) | (simp [*, errW_none, errW_some] <;> rfl), by repeat (first | (with_reducible first | exact HB.out | apply below_alloc | apply pw_below_drewN | apply below_drew1 | refine below_set ?_ GE412.out | refine below_set ?_ GE420.out | refine below_set ?_ GE439.out) | exact HB.out)⟩
             ·
              replace c92 := Bool.eq_false_iff.mpr c92
              subst c92
              have H1 : ((laws_heldRadix.f kj63 t430 1).bind fun t441 => (if t441 < 0 then (some false) else (if t441 = t429 then (some true) else (some false)))) = some r := by rw [if_neg (show ¬ (false = true) by decide)] at H; exact H
              clear H
              have H := H1
              clear H1
              replace H := Option.bind_eq_some_iff.mp H
              obtain ⟨t441, A930, H⟩ := H
              replace H : (if t441 < 0 then (some false) else (if t441 = t429 then (some true) else (some false))) = some r := H
              have A93 := aM A930
              clear A930
              by_cases c94 : t441 < 0
              ·
               rw [if_pos c94] at H
               have c94b0 : decide (t441 < 0) = true := decide_eq_true c94
               clear c94
               obtain rfl := Option.some.inj H
               have hnb95 := NB420_412.out
               have hnc95 := NB412_420.out
               have hnb96 := NB420_439.out
               have hnc96 := NB439_420.out
               have hcz97_0 : wc.cell? ⟨gb420, 0, none⟩ = some (.slice Ao19 t430.length co19) := (blk_cell BK420.out 0).trans rfl
               have hfz97_0 := blk_frozen BK420.out 0
               go_wp2_with (first | ((with_reducible refine gate_callee (f := 19) rfl ?_); refine goesL_ (some 90) rfl rfl Try.func19 (by kernel_rfl) rfl #[.agg #[.slice Ao19 t430.length co19], .int .i64 1] rfl (by (try simp only [List.map_toArray, List.map_cons, List.map_nil]); first | done | rfl | (simp only [List.length_drop, List.length_take]; rfl)) ?_; (with_reducible refine (laws_heldRadix.calls kj63 _ _ t430 1 t441 _ ?side1 ?side2 A93.out).mono ?_); (case side1 => repeat (first | exact (Kd.R_reads' HO_421000.out).2.2 | (with_reducible refine Kd.C_alloc ?_ _) | (with_reducible refine Kd.C_drewN ?_ _) | (with_reducible refine Kd.C_drew ?_))); (case side2 => exact (Kd.R_reads' HO_421000.out).2.1); rintro e w98 ⟨rfl, hb⟩; refine ⟨_, rfl, ?_⟩; have n0_ := aM (Kd.R_below (by (with_reducible repeat (first | apply Kd.R_alloc | apply Kd.R_drewN | apply Kd.R_drew)); exact HO_413000.out) hb); have n1_ := aM (Kd.R_below (by (with_reducible repeat (first | apply Kd.R_alloc | apply Kd.R_drewN | apply Kd.R_drew)); exact HO_421000.out) hb); have n2_ := aM (Kd.R_below (by (with_reducible repeat (first | apply Kd.R_alloc | apply Kd.R_drewN | apply Kd.R_drew)); exact HO_440000.out) hb); have n3_ := aM (blk_below (g := gb412) (o := .cells #[.slice Ao13 t408.length co13] 26 (0, 0)) (by (with_reducible repeat (first | refine blk_drewN ?_ _ | refine blk_drew ?_ | refine blk_alloc ?_ _)); exact BK412.out) hb); have n4_ := aM (blk_below (g := gb420) (o := .cells #[.slice Ao19 t430.length co19] 26 (0, 0)) (by (with_reducible repeat (first | refine blk_drewN ?_ _ | refine blk_drew ?_ | refine blk_alloc ?_ _)); exact BK420.out) hb); have n5_ := aM (blk_below (g := gb439) (o := .cells #[.slice Ao74 t435.length co74] 26 (0, 0)) (by (with_reducible repeat (first | refine blk_drewN ?_ _ | refine blk_drew ?_ | refine blk_alloc ?_ _)); exact BK439.out) hb); have n6_ := aM (below_step (by repeat (first | (with_reducible first | exact HB.out | apply below_alloc | apply pw_below_drewN | apply below_drew1 | refine below_set ?_ GE412.out | refine below_set ?_ GE420.out | refine below_set ?_ GE439.out) | exact HB.out)) hb); clear HO_413000; clear HO_421000; clear HO_440000; clear BK412; clear BK420; clear BK439; clear HB; have HO_413000 := n0_; have HO_421000 := n1_; have HO_440000 := n2_; have BK412 := n3_; have BK420 := n4_; have BK439 := n5_; have HB := n6_; clear n0_ n1_ n2_ n3_ n4_ n5_ n6_; (try clear hb); (try clear hb2); (try clear hk); (try clear hi)))
               go_ret
               exact ⟨by first | rfl | (simp [errW_none, errW_some] <;> rfl) | (simp [*, errW_none, errW_some] <;> rfl), by repeat (first | (with_reducible first | exact HB.out | apply below_alloc | apply pw_below_drewN | apply below_drew1 | refine below_set ?_ GE412.out | refine below_set ?_ GE420.out | refine below_set ?_ GE439.out) | exact HB.out)⟩
              ·
               rw [if_neg c94] at H
               have c94b0 : decide (t441 < 0) = false := decide_eq_false c94
               clear c94
               by_cases c99 : t441 = t429
               ·
                rw [if_pos c99] at H
                have c99b0 : (t441 == t429) = true := beq_iff_eq.mpr c99
                have c99b1 : (t441 != t429) = false := bne_eq_false_iff_eq.mpr c99
                clear c99
                obtain rfl := Option.some.inj H
                have hnb100 := NB420_412.out
                have hnc100 := NB412_420.out
                have hnb101 := NB420_439.out
                have hnc101 := NB439_420.out
                have hcz102_0 : wc.cell? ⟨gb420, 0, none⟩ = some (.slice Ao19 t430.length co19) := (blk_cell BK420.out 0).trans rfl
                have hfz102_0 := blk_frozen BK420.out 0
                go_wp2_with (first | ((with_reducible refine gate_callee (f := 19) rfl ?_); refine goesL_ (some 90) rfl rfl Try.func19 (by kernel_rfl) rfl #[.agg #[.slice Ao19 t430.length co19], .int .i64 1] rfl (by (try simp only [List.map_toArray, List.map_cons, List.map_nil]); first | done | rfl | (simp only [List.length_drop, List.length_take]; rfl)) ?_; (with_reducible refine (laws_heldRadix.calls kj63 _ _ t430 1 t441 _ ?side1 ?side2 A93.out).mono ?_); (case side1 => repeat (first | exact (Kd.R_reads' HO_421000.out).2.2 | (with_reducible refine Kd.C_alloc ?_ _) | (with_reducible refine Kd.C_drewN ?_ _) | (with_reducible refine Kd.C_drew ?_))); (case side2 => exact (Kd.R_reads' HO_421000.out).2.1); rintro e w103 ⟨rfl, hb⟩; refine ⟨_, rfl, ?_⟩; have n0_ := aM (Kd.R_below (by (with_reducible repeat (first | apply Kd.R_alloc | apply Kd.R_drewN | apply Kd.R_drew)); exact HO_413000.out) hb); have n1_ := aM (Kd.R_below (by (with_reducible repeat (first | apply Kd.R_alloc | apply Kd.R_drewN | apply Kd.R_drew)); exact HO_421000.out) hb); have n2_ := aM (Kd.R_below (by (with_reducible repeat (first | apply Kd.R_alloc | apply Kd.R_drewN | apply Kd.R_drew)); exact HO_440000.out) hb); have n3_ := aM (blk_below (g := gb412) (o := .cells #[.slice Ao13 t408.length co13] 26 (0, 0)) (by (with_reducible repeat (first | refine blk_drewN ?_ _ | refine blk_drew ?_ | refine blk_alloc ?_ _)); exact BK412.out) hb); have n4_ := aM (blk_below (g := gb420) (o := .cells #[.slice Ao19 t430.length co19] 26 (0, 0)) (by (with_reducible repeat (first | refine blk_drewN ?_ _ | refine blk_drew ?_ | refine blk_alloc ?_ _)); exact BK420.out) hb); have n5_ := aM (blk_below (g := gb439) (o := .cells #[.slice Ao74 t435.length co74] 26 (0, 0)) (by (with_reducible repeat (first | refine blk_drewN ?_ _ | refine blk_drew ?_ | refine blk_alloc ?_ _)); exact BK439.out) hb); have n6_ := aM (below_step (by repeat (first | (with_reducible first | exact HB.out | apply below_alloc | apply pw_below_drewN | apply below_drew1 | refine below_set ?_ GE412.out | refine below_set ?_ GE420.out | refine below_set ?_ GE439.out) | exact HB.out)) hb); clear HO_413000; clear HO_421000; clear HO_440000; clear BK412; clear BK420; clear BK439; clear HB; have HO_413000 := n0_; have HO_421000 := n1_; have HO_440000 := n2_; have BK412 := n3_; have BK420 := n4_; have BK439 := n5_; have HB := n6_; clear n0_ n1_ n2_ n3_ n4_ n5_ n6_; (try clear hb); (try clear hb2); (try clear hk); (try clear hi)))
                go_ret
                exact ⟨by first | rfl | (simp [errW_none, errW_some] <;> rfl) | (simp [*, errW_none, errW_some] <;> rfl), by repeat (first | (with_reducible first | exact HB.out | apply below_alloc | apply pw_below_drewN | apply below_drew1 | refine below_set ?_ GE412.out | refine below_set ?_ GE420.out | refine below_set ?_ GE439.out) | exact HB.out)⟩
               ·
                rw [if_neg c99] at H
                have c99b0 : (t441 == t429) = false := beq_eq_false_iff_ne.mpr c99
                have c99b1 : (t441 != t429) = true := bne_iff_ne.mpr c99
                obtain rfl := Option.some.inj H
                have hnb104 := NB420_412.out
                have hnc104 := NB412_420.out
                have hnb105 := NB420_439.out
                have hnc105 := NB439_420.out
                have hcz106_0 : wc.cell? ⟨gb420, 0, none⟩ = some (.slice Ao19 t430.length co19) := (blk_cell BK420.out 0).trans rfl
                have hfz106_0 := blk_frozen BK420.out 0
                go_wp2_with (first | ((with_reducible refine gate_callee (f := 19) rfl ?_); refine goesL_ (some 90) rfl rfl Try.func19 (by kernel_rfl) rfl #[.agg #[.slice Ao19 t430.length co19], .int .i64 1] rfl (by (try simp only [List.map_toArray, List.map_cons, List.map_nil]); first | done | rfl | (simp only [List.length_drop, List.length_take]; rfl)) ?_; (with_reducible refine (laws_heldRadix.calls kj63 _ _ t430 1 t441 _ ?side1 ?side2 A93.out).mono ?_); (case side1 => repeat (first | exact (Kd.R_reads' HO_421000.out).2.2 | (with_reducible refine Kd.C_alloc ?_ _) | (with_reducible refine Kd.C_drewN ?_ _) | (with_reducible refine Kd.C_drew ?_))); (case side2 => exact (Kd.R_reads' HO_421000.out).2.1); rintro e w107 ⟨rfl, hb⟩; refine ⟨_, rfl, ?_⟩; have n0_ := aM (Kd.R_below (by (with_reducible repeat (first | apply Kd.R_alloc | apply Kd.R_drewN | apply Kd.R_drew)); exact HO_413000.out) hb); have n1_ := aM (Kd.R_below (by (with_reducible repeat (first | apply Kd.R_alloc | apply Kd.R_drewN | apply Kd.R_drew)); exact HO_421000.out) hb); have n2_ := aM (Kd.R_below (by (with_reducible repeat (first | apply Kd.R_alloc | apply Kd.R_drewN | apply Kd.R_drew)); exact HO_440000.out) hb); have n3_ := aM (blk_below (g := gb412) (o := .cells #[.slice Ao13 t408.length co13] 26 (0, 0)) (by (with_reducible repeat (first | refine blk_drewN ?_ _ | refine blk_drew ?_ | refine blk_alloc ?_ _)); exact BK412.out) hb); have n4_ := aM (blk_below (g := gb420) (o := .cells #[.slice Ao19 t430.length co19] 26 (0, 0)) (by (with_reducible repeat (first | refine blk_drewN ?_ _ | refine blk_drew ?_ | refine blk_alloc ?_ _)); exact BK420.out) hb); have n5_ := aM (blk_below (g := gb439) (o := .cells #[.slice Ao74 t435.length co74] 26 (0, 0)) (by (with_reducible repeat (first | refine blk_drewN ?_ _ | refine blk_drew ?_ | refine blk_alloc ?_ _)); exact BK439.out) hb); have n6_ := aM (below_step (by repeat (first | (with_reducible first | exact HB.out | apply below_alloc | apply pw_below_drewN | apply below_drew1 | refine below_set ?_ GE412.out | refine below_set ?_ GE420.out | refine below_set ?_ GE439.out) | exact HB.out)) hb); clear HO_413000; clear HO_421000; clear HO_440000; clear BK412; clear BK420; clear BK439; clear HB; have HO_413000 := n0_; have HO_421000 := n1_; have HO_440000 := n2_; have BK412 := n3_; have BK420 := n4_; have BK439 := n5_; have HB := n6_; clear n0_ n1_ n2_ n3_ n4_ n5_ n6_; (try clear hb); (try clear hb2); (try clear hk); (try clear hi)))
                go_ret
                exact ⟨by first | rfl | (simp [errW_none, errW_some] <;> rfl) | (simp [*, errW_none, errW_some] <;> rfl), by repeat (first | (with_reducible first | exact HB.out | apply below_alloc | apply pw_below_drewN | apply below_drew1 | refine below_set ?_ GE412.out | refine below_set ?_ GE420.out | refine below_set ?_ GE439.out) | exact HB.out)⟩
          ·
           rw [if_neg c61] at H
           have c61b0 : (t431 == t429) = false := beq_eq_false_iff_ne.mpr c61
           have c61b1 : (t431 != t429) = true := bne_iff_ne.mpr c61
           obtain rfl := Option.some.inj H
           have hnb108 := NB420_412.out
           have hnc108 := NB412_420.out
           have hcz109_0 : wc.cell? ⟨gb420, 0, none⟩ = some (.slice Ao19 t416.length co19) := (blk_cell BK420.out 0).trans rfl
           have hfz109_0 := blk_frozen BK420.out 0
           go_wp2_with (first | ((with_reducible refine gate_callee (f := 18) rfl ?_); refine goesL_ (some 64) rfl rfl Try.func18 (by kernel_rfl) rfl #[.agg #[.slice Ao19 t416.length co19], .int .i64 1] rfl (by (try simp only [List.map_toArray, List.map_cons, List.map_nil]); first | done | rfl | (simp only [List.length_drop, List.length_take]; rfl)) ?_; (with_reducible refine (laws_markRadix.calls kj36 (fun k_ => some k_ = (.slice Ao19 t416.length co19 : Value).ownBlock) (.slice Ao19 t416.length co19) t416 1 t429 t430 w _ ?side1 ?side2 A53.out).mono ?_); (case side1 => repeat (first | (with_reducible first | exact HB.out | apply below_alloc | apply pw_below_drewN | apply below_drew1 | refine below_set ?_ GE412.out | refine below_set ?_ GE420.out) | exact HB.out)); (case side2 => exact Kd.R_tight rfl HO_421000.out); rintro e w110 ⟨rfl, hy0, hb, hkp⟩; refine ⟨_, rfl, ?_⟩; have n0_ := aM (Kd.R_mono (ok' := fun k_ => some k_ ≠ (.slice Ao19 t416.length co19 : Value).ownBlock) (Kd.R_keptB (HO_413000.out) hkp (fun k_ hk_ hs_ => (hk_) hs_)) (fun k_ hk_ => hk_.1)); have n1_ := aM (Kd.R_reok rfl hy0 (fun k_ e_ => HO_421000.out.1 k_ e_)); have n2_ := aM (blk_kept (by (with_reducible repeat (first | refine blk_drewN ?_ _ | refine blk_drew ?_ | refine blk_alloc ?_ _)); exact BK412.out) hkp (fun hs_ => (fun e_ => (Kd.R_ne HO_421000.out BK412.out (by decide)) e_) hs_)); have n3_ := aM (blk_kept (by (with_reducible repeat (first | refine blk_drewN ?_ _ | refine blk_drew ?_ | refine blk_alloc ?_ _)); exact BK420.out) hkp (fun hs_ => (fun e_ => (Kd.R_ne HO_421000.out BK420.out (by decide)) e_) hs_)); have n4_ := aM (hb); clear HO_413000; clear HO_421000; clear BK412; clear BK420; clear HB; have HO_413000 := n0_; have HO_421000 := n1_; have BK412 := n2_; have BK420 := n3_; have HB := n4_; clear n0_ n1_ n2_ n3_ n4_; (try clear hb); (try clear hkp); (try clear hy0); have hcz111_0 : w110.cell? ⟨gb420, 0, none⟩ = some (.slice Ao19 t416.length co19) := (blk_cell BK420.out 0).trans rfl; have hfz111_0 := blk_frozen BK420.out 0) | ((with_reducible refine gate_callee (f := 19) rfl ?_); refine goesL_ (some 67) rfl rfl Try.func19 (by kernel_rfl) rfl #[.agg #[.slice Ao19 t430.length co19], .int .i64 1] rfl (by (try simp only [List.map_toArray, List.map_cons, List.map_nil]); first | done | (rw [show t430.length = t416.length from (Kd.R_reads' HO_421000.out).1.symm] <;> rfl) | rfl | (simp only [List.length_drop, List.length_take]; rfl)) ?_; (with_reducible refine (laws_heldRadix.calls kj36 _ _ t430 1 t431 _ ?side1 ?side2 A54.out).mono ?_); (case side1 => repeat (first | exact (Kd.R_reads' HO_421000.out).2.2 | (with_reducible refine Kd.C_alloc ?_ _) | (with_reducible refine Kd.C_drewN ?_ _) | (with_reducible refine Kd.C_drew ?_))); (case side2 => rw [show t430.length = t416.length from (Kd.R_reads' HO_421000.out).1.symm]; exact (Kd.R_reads' HO_421000.out).2.1); rintro e w112 ⟨rfl, hb⟩; refine ⟨_, rfl, ?_⟩; have n0_ := aM (Kd.R_below (by (with_reducible repeat (first | apply Kd.R_alloc | apply Kd.R_drewN | apply Kd.R_drew)); exact HO_413000.out) hb); have n1_ := aM (Kd.R_below (by (with_reducible repeat (first | apply Kd.R_alloc | apply Kd.R_drewN | apply Kd.R_drew)); exact HO_421000.out) hb); have n2_ := aM (blk_below (g := gb412) (o := .cells #[.slice Ao13 t408.length co13] 26 (0, 0)) (by (with_reducible repeat (first | refine blk_drewN ?_ _ | refine blk_drew ?_ | refine blk_alloc ?_ _)); exact BK412.out) hb); have n3_ := aM (blk_below (g := gb420) (o := .cells #[.slice Ao19 t416.length co19] 26 (0, 0)) (by (with_reducible repeat (first | refine blk_drewN ?_ _ | refine blk_drew ?_ | refine blk_alloc ?_ _)); exact BK420.out) hb); have n4_ := aM (below_step (by repeat (first | (with_reducible first | exact HB.out | apply below_alloc | apply pw_below_drewN | apply below_drew1 | refine below_set ?_ GE412.out | refine below_set ?_ GE420.out) | exact HB.out)) hb); clear HO_413000; clear HO_421000; clear BK412; clear BK420; clear HB; have HO_413000 := n0_; have HO_421000 := n1_; have BK412 := n2_; have BK420 := n3_; have HB := n4_; clear n0_ n1_ n2_ n3_ n4_; (try clear hb); (try clear hb2); (try clear hk); (try clear hi)))
           go_ret
           exact ⟨by first | rfl | (simp [errW_none, errW_some] <;> rfl) | (simp [*, errW_none, errW_some] <;> rfl), by repeat (first | (with_reducible first | exact HB.out | apply below_alloc | apply pw_below_drewN | apply below_drew1 | refine below_set ?_ GE412.out | refine below_set ?_ GE420.out) | exact HB.out)⟩
     ·
      replace c35 := Bool.eq_false_iff.mpr c35
      subst c35
      have H1 : (some false) = some r := by rw [if_neg (show ¬ (false = true) by decide)] at H; exact H
      clear H
      have H := H1
      clear H1
      obtain rfl := Option.some.inj H
      go_wp2_with (first | ((with_reducible refine gate_callee (f := 13) rfl ?_); refine goesL_ (some 43) rfl rfl Try.func13 (by kernel_rfl) rfl #[.slice A0 l0.length c0] rfl (by (try simp only [List.map_toArray, List.map_cons, List.map_nil]); first | done | rfl | (simp only [List.length_drop, List.length_take]; rfl)) ?_; (with_reducible refine (laws_toStringS.calls kj7 _ _ l0 t422 _ ?side1 ?side2 A33.out).mono ?_); (case side1 => repeat (first | exact (Kd.C_below HR0.out HB.out) | (with_reducible refine Kd.C_alloc ?_ _) | (with_reducible refine Kd.C_drewN ?_ _) | (with_reducible refine Kd.C_drew ?_))); (case side2 => exact HC0.out); rintro e w113 ⟨v423, rfl, ho0, hb⟩; refine ⟨_, rfl, ?_⟩; have n0_ := aM (Kd.R_elder' (by (with_reducible repeat (first | apply Kd.R_alloc | apply Kd.R_drewN | apply Kd.R_drew)); exact HO_6.out) (Kd.R_base ho0) hb); have n1_ := aM (Kd.R_below (by (with_reducible repeat (first | apply Kd.R_alloc | apply Kd.R_drewN | apply Kd.R_drew)); exact HO_413000.out) hb); have n2_ := aM (Kd.R_below (by (with_reducible repeat (first | apply Kd.R_alloc | apply Kd.R_drewN | apply Kd.R_drew)); exact HO_421000.out) hb); have n3_ := aM (Kd.R_lower (Kd.R_new' ho0 (Kd.R_lt (by (with_reducible repeat (first | apply Kd.R_alloc | apply Kd.R_drewN | apply Kd.R_drew)); exact HO_6.out))) (below_size (by repeat (first | (with_reducible first | exact HB.out | apply below_alloc | apply pw_below_drewN | apply below_drew1 | refine below_set ?_ GE412.out | refine below_set ?_ GE420.out) | exact HB.out)))); have n4_ := aM (blk_below (g := gb412) (o := .cells #[.slice Ao13 t408.length co13] 26 (0, 0)) (by (with_reducible repeat (first | refine blk_drewN ?_ _ | refine blk_drew ?_ | refine blk_alloc ?_ _)); exact BK412.out) hb); have n5_ := aM (blk_below (g := gb420) (o := .cells #[.slice Ao19 t416.length co19] 26 (0, 0)) (by (with_reducible repeat (first | refine blk_drewN ?_ _ | refine blk_drew ?_ | refine blk_alloc ?_ _)); exact BK420.out) hb); have n6_ := aM (below_step (by repeat (first | (with_reducible first | exact HB.out | apply below_alloc | apply pw_below_drewN | apply below_drew1 | refine below_set ?_ GE412.out | refine below_set ?_ GE420.out) | exact HB.out)) hb); clear HO_6; clear HO_413000; clear HO_421000; clear BK412; clear BK420; clear HB; have HO_6 := n0_; have HO_413000 := n1_; have HO_421000 := n2_; have HO424 := n3_; have BK412 := n4_; have BK420 := n5_; have HB := n6_; clear n0_ n1_ n2_ n3_ n4_ n5_ n6_; (try clear hb); (try clear hb2); (try clear hk); (try clear hi); (try clear ho0); obtain ⟨Ao114, co114, eo114⟩ := Kd.R_slice HO424.out; subst eo114) | ((with_reducible refine gate_callee (f := 16) rfl ?_); refine goesL_ (some 44) rfl rfl Try.func16 (by kernel_rfl) rfl #[.slice Ao16 t413.length co16, .slice Ao114 t422.length co114] rfl (by (try simp only [List.map_toArray, List.map_cons, List.map_nil]); first | done | rfl | (simp only [List.length_drop, List.length_take]; rfl)) ?_; (with_reducible refine (laws_eqStringS.calls kj7 _ _ t413 _ _ t422 false _ ?side1 ?side2 ?side3 ?side4 A34.out).mono ?_); (case side1 => repeat (first | exact (Kd.R_reads' HO_6.out).2.2 | (with_reducible refine Kd.C_alloc ?_ _) | (with_reducible refine Kd.C_drewN ?_ _) | (with_reducible refine Kd.C_drew ?_))); (case side2 => exact (Kd.R_reads' HO_6.out).2.1); (case side3 => repeat (first | exact (Kd.R_reads' HO424.out).2.2 | (with_reducible refine Kd.C_alloc ?_ _) | (with_reducible refine Kd.C_drewN ?_ _) | (with_reducible refine Kd.C_drew ?_))); (case side4 => exact (Kd.R_reads' HO424.out).2.1); rintro e w' ⟨rfl, ⟨nd, rfl⟩⟩; refine ⟨_, rfl, ?_⟩))
      go_ret
      exact ⟨by first | rfl | (simp [errW_none, errW_some] <;> rfl) | (simp [*, errW_none, errW_some] <;> rfl), by repeat (first | (with_reducible first | exact HB.out | apply below_alloc | apply pw_below_drewN | apply below_drew1 | refine below_set ?_ GE412.out | refine below_set ?_ GE420.out) | exact HB.out)⟩

/-- THE ONE PURE STATEMENT of laws_FnExactRadixOf. -/
def laws_FnExactRadixOf.Pure : Prop := ∀ (l0 : List ByteArray), (l0.length ≤ maxLen ∧ ∀ x_ ∈ l0, x_.size ≤ maxLen) → ∃ k, laws_FnExactRadixOf.f k l0 = some true
theorem laws_FnExactRadixOf.walk (P : laws_FnExactRadixOf.Pure) (A0 : Option Addr) (c0 : Nat) (l0 : List ByteArray) (w : World) (hr0 : Kd.C Kd.string w A0 l0.length l0) (hc0 : l0.length ≤ c0) (w0 : (l0.length ≤ maxLen ∧ ∀ x_ ∈ l0, x_.size ≤ maxLen)) :
  Calls Try.prog 3 #[.slice A0 l0.length c0] w fun e w' => e = .returned (.bool true) ∧ Below w.heap.size w w' := by
 obtain ⟨k, h⟩ := P l0 w0
 refine (laws_FnExactRadixOf.calls k _ _ l0 true w hr0 hc0 h).mono ?_
 rintro e w' ⟨rfl, hd⟩
 exact ⟨rfl, hd⟩

end Go.Proofs.Ytcngebfcpobnnaa.PQ
end

section
namespace Go.Proofs.Ytcngebfcpobnnaa.Pure
open Go.RowKit Go.Proofs.Ytcngebfcpobnnaa.PQ Go.Proofs.YtcngebfcpobnnaaW.PrintWords Go.Proofs.YtcngebfcpobnnaaW.PrintLast Go.Proofs.Ytcngebfcpobnnaa.Pre Go.Proofs.Ytcngebfcpobnnaa.Rx
theorem FnExactRadixOf : laws_FnExactRadixOf.Pure := by
 intro l hw
 refine Evt.ex (r := true) ?_
 obtain ⟨t, ht, h2⟩ := StS.szS_ev l hw.1 hw.2 1048576 (by omega) (by omega)
 unfold laws_FnExactRadixOf.f
 refine Evt.bind ht ?_
 by_cases hc : t < 0
 ·
  exact Evt.pos hc (Evt.const _)
 ·
  refine Evt.neg hc ?_
  have hs := h2 (by omega)
  have hto := StS.toS_ev l hs.1
  have hS := specRad_ev l hs
  have hI : impl_RadixOf.f l = some (ansRad l) := if_pos hs
  have hrl := ansRad_len l
  generalize ansRad l = r at hS hI hrl
  obtain ⟨rl, rb⟩ := r
  have hrl : rl.length ≤ 81 := hrl
  have heq := RxL.eq_ev rl (by omega)
  have heqs := Strs.eq_self l hs.1
  have hmk := Strs.mark_ev l 1 (by omega) hs.1
  have hmr := RxL.mark_ev rl 1 (by omega) (by omega)
  have hhr := RxL.held_ev rl.length 1 (by omega) (by omega)
  refine Evt.bind hto (Evt.bind hS (Evt.bind hto ?_))
  rw [hI]
  refine Evt.bsome (Evt.bind heq (Evt.pos rfl ?_))
  refine Evt.step (fun k => laws_FnExactRadixOf.j0.eq_2 _ _ _ _ _ _ _ k) (Evt.neg (by simp) (Evt.bind hto (Evt.bind heqs (Evt.pos rfl (Evt.bind hmk (Evt.neg (by simp; omega) (Evt.bind heq (Evt.pos rfl ?_))))))))
  refine Evt.step (fun k => laws_FnExactRadixOf.j1.eq_2 _ _ _ _ _ k) (Evt.neg (by simp) (Evt.bind hmr (Evt.bind hhr (Evt.neg (by omega) (Evt.pos rfl ?_)))))
  refine Evt.bind hto ?_
  rw [hI]
  refine Evt.bsome (Evt.bind heq (Evt.pos rfl ?_))
  exact Evt.step (fun k => laws_FnExactRadixOf.j2.eq_2 _ _ _ k) (Evt.neg (by simp) (Evt.bind hhr (Evt.neg (by omega) (Evt.pos rfl (Evt.const _)))))
end Go.Proofs.Ytcngebfcpobnnaa.Pure
end

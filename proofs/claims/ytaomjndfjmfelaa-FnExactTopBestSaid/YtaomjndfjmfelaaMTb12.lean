/- Several texts in one: what the claim's last text rests on. No conditions. -/
import Derived.Test.YtaomjndfjmfelaaMTb11
import Derived.Test.YtaomjndfjmfelaaMTb9
import Derived.Test.YtaomjndfjmfelaaMTb6
import Derived.Test.YtaomjndfjmfelaaMTb7
section
namespace Go.Proofs.Ytaomjndfjmfelaa.SoB
set_option linter.unusedVariables false
set_option linter.unusedSimpArgs false
open Go.RowKit Go.Shelf Go.Lib Go.Sort Go.Proofs.Ytaomjndfjmfelaa.PQ Go.Proofs.YtaomjndfjmfelaaW.PrintWords Go.Proofs.YtaomjndfjmfelaaW.PrintLast Go.Proofs.YtaomjndfjmfelaaW.PrintMore Go.Proofs.Ytaomjndfjmfelaa.Pre
abbrev Rk := S77
theorem met_len (L : List Rk) (id : Int) (acc : List Sc) : (Meet.met L id acc).length ≤ acc.length + 1 := by
  unfold Meet.met
  split
  · omega
  · simp
theorem take_last {α : Type} (l : List α) (i : Nat) (h : i < l.length) : l.take (i + 1) = l.take i ++ [l[i]] := List.take_succ_eq_append_getElem h
theorem good_facts {L : List Rk} (h : RankG.good L = true) : L.length ≤ 5 ∧ ∀ x ∈ L, x.f0.length ≤ 60 := by
  unfold RankG.good at h
  rw [Bool.and_eq_true, decide_eq_true_eq] at h
  refine ⟨h.1, fun x hx => ?_⟩
  have h2 := h.2
  rw [Bool.not_eq_true', List.any_eq_false] at h2
  have h3 := h2 x hx
  unfold RankG.bad Rank.rankOK at h3
  simp only [Bool.not_eq_true', Bool.not_eq_false', Bool.and_eq_true, decide_eq_true_eq, Bool.not_eq_true, Bool.not_eq_false] at h3
  exact h3.1
end Go.Proofs.Ytaomjndfjmfelaa.SoB
end

section
namespace Go.Proofs.Ytaomjndfjmfelaa.SoB
set_option linter.unusedVariables false
set_option linter.unusedSimpArgs false
open Go.RowKit Go.Sort Go.Proofs.Ytaomjndfjmfelaa.PQ Go.Proofs.YtaomjndfjmfelaaW.PrintWords Go.Proofs.YtaomjndfjmfelaaW.PrintLast Go.Proofs.Ytaomjndfjmfelaa.Pre
theorem le_ahead (x y : Sc) : le x y = !(Rank.ahead y x) := by
 unfold le Rank.ahead
 rw [lt_bf]
 congr 1
 exact decide_eq_decide.2 (by omega)
theorem ah_iff (y x : Sc) : Rank.ahead y x = true ↔ (x.f1 < y.f1 ∨ (x.f1 = y.f1 ∧ y.f0 < x.f0)) := by
 unfold Rank.ahead
 exact decide_eq_true_iff
theorem le_iff (x y : Sc) : le x y = true ↔ ¬ (x.f1 < y.f1 ∨ (x.f1 = y.f1 ∧ y.f0 < x.f0)) := by
 rw [le_ahead, Bool.not_eq_true', ← Bool.not_eq_true, ah_iff]
theorem le_trans {x y z : Sc} (h1 : le x y = true) (h2 : le y z = true) : le x z = true := by
 rw [le_iff] at *
 omega
theorem le_total (x y : Sc) : (le x y || le y x) = true := by
 rw [Bool.or_eq_true, le_iff, le_iff]
 omega
theorem le_anti {x y : Sc} (h1 : le x y = true) (h2 : le y x = true) : x = y := by
 rw [le_iff] at *
 have e1 : x.f1 = y.f1 := by omega
 have e0 : x.f0 = y.f0 := by omega
 cases x; cases y
 simp_all
/-- In order. -/
def Ord (l : List Sc) : Prop := l.Pairwise (fun a b => le a b = true)
theorem ord_sort (l : List Sc) : Ord (l.mergeSort le) := by
 have h := List.pairwise_mergeSort (le := le) (fun a b c h1 h2 => SoB.le_trans (x := a) (y := b) (z := c) h1 h2) (fun a b => SoB.le_total a b) l
 exact h
theorem ord_uniq : ∀ {l m : List Sc}, l.Perm m → Ord l → Ord m → l = m
 | [], m, h, _, _ => (List.Perm.nil_eq h)
 | a :: l, [], h, _, _ => by have := h.length_eq; simp at this
 | a :: l, b :: m, h, h1, h2 => by
  have hab : a = b := by
   have ha : a ∈ b :: m := h.subset (List.mem_cons_self ..)
   have hb : b ∈ a :: l := h.symm.subset (List.mem_cons_self ..)
   rcases List.mem_cons.1 ha with e | ha
   ·
    exact e
   ·
    rcases List.mem_cons.1 hb with e | hb
    ·
     exact e.symm
    ·
     exact le_anti ((List.pairwise_cons.1 h1).1 b hb) ((List.pairwise_cons.1 h2).1 a ha)
  subst hab
  rw [ord_uniq ((List.perm_cons a).1 h) (List.pairwise_cons.1 h1).2 (List.pairwise_cons.1 h2).2]
/-- One put to its place. -/
def ins (l : List Sc) (s : Sc) : List Sc := l.takeWhile (fun y => Rank.ahead y s) ++ s :: l.dropWhile (fun y => Rank.ahead y s)
theorem ins_cons (a : Sc) (l : List Sc) (s : Sc) : ins (a :: l) s = if Rank.ahead a s = true then a :: ins l s else s :: a :: l := by
 unfold ins
 rw [List.takeWhile_cons, List.dropWhile_cons]
 split <;> rfl
theorem ins_perm (s : Sc) : ∀ l : List Sc, (ins l s).Perm (s :: l)
 | [] => List.Perm.refl _
 | a :: l => by
  rw [ins_cons]
  split
  ·
   exact ((ins_perm s l).cons a).trans (List.Perm.swap s a l)
  ·
   exact List.Perm.refl _
theorem ins_ord (s : Sc) : ∀ l : List Sc, Ord l → Ord (ins l s)
 | [], _ => List.pairwise_cons.2 ⟨fun _ h => (by cases h), List.Pairwise.nil⟩
 | a :: l, h => by
  obtain ⟨h1, h2⟩ := List.pairwise_cons.1 h
  rw [ins_cons]
  split
  ·
   rename_i ha
   refine List.pairwise_cons.2 ⟨fun x hx => ?_, ins_ord s l h2⟩
   rcases List.mem_cons.1 ((ins_perm s l).subset hx) with e | hx
   ·
    rw [e, le_iff]
    rw [ah_iff] at ha
    omega
   ·
    exact h1 x hx
  ·
   rename_i ha
   have hs : le s a = true := by rw [le_ahead]; simpa using ha
   refine List.pairwise_cons.2 ⟨fun x hx => ?_, h⟩
   rcases List.mem_cons.1 hx with e | hx
   ·
    rw [e]; exact hs
   ·
    exact le_trans hs (h1 x hx)
/-- One put, once. -/
def putS (l : List Sc) (s : Sc) : List Sc := if l.any (Meet.isId s.f0) = true then l else ins l s
theorem putS_sort (acc : List Sc) (s : Sc) : putS (acc.mergeSort le) s = (if acc.any (Meet.isId s.f0) = true then acc else acc ++ [s]).mergeSort le := by
 have hp := List.mergeSort_perm acc le
 have ha : (acc.mergeSort le).any (Meet.isId s.f0) = acc.any (Meet.isId s.f0) := by
  rw [Bool.eq_iff_iff, List.any_eq_true, List.any_eq_true]
  constructor
  ·
   rintro ⟨x, hx, h⟩; exact ⟨x, hp.subset hx, h⟩
  ·
   rintro ⟨x, hx, h⟩; exact ⟨x, hp.symm.subset hx, h⟩
 unfold putS
 rw [ha]
 split
 ·
  rfl
 ·
  refine ord_uniq ?_ (ins_ord s _ (ord_sort acc)) (ord_sort _)
  exact ((ins_perm s _).trans (hp.cons s)).trans (((List.perm_append_singleton s acc).symm).trans (List.mergeSort_perm _ le).symm)
theorem met_sort (L : List Rk) (id : Int) (acc : List Sc) : (Meet.met L id acc).mergeSort le = putS (acc.mergeSort le) ⟨id, RankS.sumR id L⟩ := by
 rw [putS_sort]
 rfl
theorem ins_at (s : Sc) : ∀ (l : List Sc) (i : Nat), i ≤ l.length → (∀ (j : Nat) (h : j < l.length), j < i → Rank.ahead l[j] s = true) → (∀ h : i < l.length, Rank.ahead l[i] s = false) → ins l s = l.take i ++ s :: l.drop i
 | [], i, hi, _, _ => by
  have : i = 0 := by simpa using hi
  subst this
  rfl
 | a :: l, 0, hi, _, h2 => by
  have := h2 (by simp)
  rw [ins_cons, if_neg (by rw [show Rank.ahead a s = false from this]; decide)]
  rfl
 | a :: l, i + 1, hi, h1, h2 => by
  have h0 : Rank.ahead a s = true := h1 0 (by simp) (by omega)
  rw [ins_cons, if_pos h0, ins_at s l i (by simpa using hi) (fun j h hj => h1 (j + 1) (by simpa using h) (by omega)) (fun h => h2 (by simpa using h))]
  rfl
theorem put_ev (l : List Sc) (hl : l.length ≤ 1048576) (id sc : Int) : Evt (fun k => spec_l11Put.f k l id sc) (putS l ⟨id, sc⟩) := by
 unfold spec_l11Put.f putS
 have find : ∀ (m i : Nat), i + m = l.length → (∀ (j : Nat) (h : j < l.length), j < i → Rank.ahead l[j] ⟨id, sc⟩ = true) → Evt (fun k => spec_l11Put.l1 k l (i : Int) id sc) (ins l ⟨id, sc⟩) := by
  intro m
  induction m with
  | zero =>
   intro i hi hj
   have e := ins_at ⟨id, sc⟩ l i (by omega) hj (fun h => by omega)
   refine Evt.step (fun k => spec_l11Put.l1.eq_2 _ _ _ _ k) (Evt.neg (by omega) (Evt.pos (by omega) (Evt.pos (by omega) (Evt.bsome (Evt.pos (by simp; omega) (Evt.bsome (Evt.pos (by simp; omega) (Evt.bsome (Evt.bsome (Evt.pos (by simp; omega) ((Evt.const _).eq ?_)))))))))))
   rw [e, Int.toNat_natCast]
   simp
  | succ m ih =>
   intro i hi hj
   have hil : i < l.length := by omega
   refine Evt.step (fun k => spec_l11Put.l1.eq_2 _ _ _ _ k) (Evt.pos (by omega) (Evt.pos (by omega) ?_))
   rw [RankP.rd_at l i hil, show spec_l11Less.f l[i].f0 l[i].f1 id sc = some (Rank.ahead l[i] ⟨id, sc⟩) from RankP.less_ev l[i] ⟨id, sc⟩]
   refine Evt.bsome ?_
   cases ha : Rank.ahead l[i] ⟨id, sc⟩ with
   | true =>
    refine Evt.pos rfl ?_
    rw [w64 (n := (i : Int) + 1) (by omega) (by omega), show (i : Int) + 1 = ((i + 1 : Nat) : Int) by omega]
    refine ih (i + 1) (by omega) (fun j h hji => ?_)
    rcases Nat.lt_or_ge j i with h3 | h3
    ·
     exact hj j h h3
    ·
     obtain rfl : j = i := by omega
     exact ha
   | false =>
    have e := ins_at ⟨id, sc⟩ l i (by omega) hj (fun _ => ha)
    refine Evt.neg (by decide) (Evt.pos (by omega) (Evt.bsome (Evt.pos (by simp; omega) (Evt.bsome (Evt.pos (by simp; omega) (Evt.bsome (Evt.bsome (Evt.pos (by simp; omega) ((Evt.const _).eq ?_)))))))))
    rw [e, Int.toNat_natCast]
    simp
 have key : ∀ (m i : Nat), i + m = l.length → (l.take i).any (Meet.isId id) = false → Evt (fun k => spec_l11Put.l0 k l l (l.length : Int) (i : Int) id sc) (if l.any (Meet.isId id) = true then l else ins l ⟨id, sc⟩) := by
  intro m
  induction m with
  | zero =>
   intro i hi ha
   rw [List.take_of_length_le (by omega)] at ha
   rw [if_neg (by rw [ha]; decide)]
   exact Evt.step (fun k => spec_l11Put.l0.eq_2 _ _ _ _ _ _ k) (Evt.neg (by omega) (find l.length 0 (by omega) (fun j h hj => absurd hj (Nat.not_lt_zero _))))
  | succ m ih =>
   intro i hi ha
   have hil : i < l.length := by omega
   refine Evt.step (fun k => spec_l11Put.l0.eq_2 _ _ _ _ _ _ k) (Evt.pos (by omega) (Evt.pos (by omega) (Evt.pos (by omega) ?_)))
   rw [RankP.rd_at l i hil]
   by_cases he : l[i].f0 = id
   ·
    refine Evt.pos he ((Evt.const _).eq ?_)
    rw [if_pos]
    rw [List.any_eq_true]
    exact ⟨l[i], List.getElem_mem hil, by unfold Meet.isId; rw [he]; exact beq_self_eq_true _⟩
   ·
    refine Evt.neg he ?_
    rw [w64 (n := (i : Int) + 1) (by omega) (by omega), show (i : Int) + 1 = ((i + 1 : Nat) : Int) by omega]
    refine ih (i + 1) (by omega) ?_
    rw [take_last l i hil, List.any_append, ha, Bool.false_or]
    simp [Meet.isId, he]
 exact key l.length 0 (by omega) rfl
theorem first_ev (l : List Sc) (hl : l.length ≤ 1048576) (k : Nat) (hk : k ≤ 60) : spec_l11First.f l (k : Int) = some (l.take k) := by
 unfold spec_l11First.f
 by_cases h : (l.length : Int) > (k : Int)
 ·
  rw [if_pos h, if_pos (by omega), if_pos (by omega), Option.bind_some, Option.bind_some, if_pos (by simp; omega), Int.toNat_natCast, List.nil_append]
 ·
  rw [if_neg h, Option.bind_some, if_pos (by simp; omega), List.nil_append, List.take_of_length_le (by omega)]
end Go.Proofs.Ytaomjndfjmfelaa.SoB
end

section
namespace Go.Proofs.Ytaomjndfjmfelaa.TopB
set_option linter.unusedVariables false
set_option linter.unusedSimpArgs false
open Go.RowKit Go.Sort Go.Proofs.Ytaomjndfjmfelaa.PQ Go.Proofs.YtaomjndfjmfelaaW.PrintWords Go.Proofs.YtaomjndfjmfelaaW.PrintLast Go.Proofs.Ytaomjndfjmfelaa.Pre
abbrev Sc := SoB.Sc
abbrev Rk := SoB.Rk
/-- One depth's look: those met, the threshold. -/
def rowD (L : List Rk) (d : Nat) (l : List Rk) (acc : List Sc) : List Sc := l.foldl (fun a r => if h : d < r.f0.length then Meet.met L (r.f0[d]).f0 a else a) acc
def thrD (d : Nat) (l : List Rk) (s : Int) : Int := l.foldl (fun s r => if h : d < r.f0.length then wrap64 (s + (r.f0[d]).f1) else s) s
def anyD (d : Nat) (l : List Rk) : Bool := l.any (fun r => decide (d < r.f0.length))
def depths (l : List Rk) : Nat := l.foldl (fun m r => max m r.f0.length) 0
def above (t : Int) (acc : List Sc) : Nat := acc.countP (fun x => decide (t < x.f1))
def topI (L : List Rk) (k : Nat) : Nat → Nat → List Sc → List Sc × Int
 | 0, d, acc => ((acc.mergeSort SoB.le).take k, (d : Int))
 | n + 1, d, acc => if k ≤ above (thrD d L 0) (rowD L d L acc) then (((rowD L d L acc).mergeSort SoB.le).take k, ((d + 1 : Nat) : Int)) else topI L k n (d + 1) (rowD L d L acc)
def ansT (L : List Rk) (k : Nat) : List Sc × Int := if k = 0 then ([], 0) else topI L k (depths L) 0 []
def ansTB (L : List Rk) (k : Int) : List Sc × Int × Bool := if RankG.good L = true ∧ (0 ≤ k ∧ k ≤ 60) then ((ansT L k.toNat).1, (ansT L k.toNat).2, true) else ([], 0, false)
theorem topI_len (L : List Rk) (k : Nat) : ∀ (n d : Nat) (acc : List Sc), (topI L k n d acc).1.length ≤ k
 | 0, d, acc => by
  unfold topI
  show ((acc.mergeSort SoB.le).take k).length ≤ k
  rw [List.length_take]
  exact Nat.min_le_left _ _
 | n + 1, d, acc => by
  unfold topI
  split
  ·
   show (((rowD L d L acc).mergeSort SoB.le).take k).length ≤ k
   rw [List.length_take]
   exact Nat.min_le_left _ _
  ·
   exact topI_len L k n (d + 1) _
theorem ansT_len (L : List Rk) (k : Nat) : (ansT L k).1.length ≤ k := by
 unfold ansT
 split
 ·
  exact Nat.zero_le _
 ·
  exact topI_len L k _ _ _
theorem ansTB_len (L : List Rk) (k : Int) : (ansTB L k).1.length ≤ 1048576 := by
 unfold ansTB
 split
 ·
  rename_i h
  have h1 := ansT_len L k.toNat
  have h2 := h.2.2
  show (ansT L k.toNat).1.length ≤ 1048576
  omega
 ·
  exact Nat.zero_le _
theorem rowD_cons (L : List Rk) (d : Nat) (r : Rk) (l : List Rk) (acc : List Sc) : rowD L d (r :: l) acc = rowD L d l (if h : d < r.f0.length then Meet.met L (r.f0[d]).f0 acc else acc) := rfl
theorem thrD_cons (d : Nat) (r : Rk) (l : List Rk) (s : Int) : thrD d (r :: l) s = thrD d l (if h : d < r.f0.length then wrap64 (s + (r.f0[d]).f1) else s) := rfl
theorem rowD_len (L : List Rk) (d : Nat) : ∀ (l : List Rk) (acc : List Sc), (rowD L d l acc).length ≤ acc.length + l.length
 | [], acc => Nat.le_refl _
 | r :: l, acc => by
  rw [rowD_cons, List.length_cons]
  refine Nat.le_trans (rowD_len L d l _) ?_
  split
  ·
   have := SoB.met_len L (r.f0[d]).f0 acc
   omega
  ·
   omega
theorem depths_le : ∀ (l : List Rk) (m n : Nat), m ≤ n → (∀ x ∈ l, x.f0.length ≤ n) → l.foldl (fun m r => max m r.f0.length) m ≤ n
 | [], m, n, h, _ => h
 | r :: l, m, n, h, hx => depths_le l _ n (Nat.max_le.2 ⟨h, hx r (List.mem_cons_self ..)⟩) (fun x hm => hx x (List.mem_cons_of_mem _ hm))
theorem le_depths : ∀ (l : List Rk) (m : Nat), m ≤ l.foldl (fun m r => max m r.f0.length) m ∧ ∀ x ∈ l, x.f0.length ≤ l.foldl (fun m r => max m r.f0.length) m
 | [], m => ⟨Nat.le_refl _, fun _ h => by cases h⟩
 | r :: l, m => by
  obtain ⟨h1, h2⟩ := le_depths l (max m r.f0.length)
  refine ⟨Nat.le_trans (Nat.le_max_left _ _) h1, fun x hx => ?_⟩
  rcases List.mem_cons.1 hx with rfl | hx
  ·
   exact Nat.le_trans (Nat.le_max_right _ _) h1
  ·
   exact h2 x hx
theorem depths_mem : ∀ (l : List Rk) (m d : Nat), d < l.foldl (fun m r => max m r.f0.length) m → d < m ∨ ∃ x ∈ l, d < x.f0.length
 | [], m, d, h => .inl h
 | r :: l, m, d, h => by
  rcases depths_mem l (max m r.f0.length) d h with h | ⟨x, hx, h⟩
  ·
   rcases Nat.lt_or_ge d m with h1 | h1
   ·
    exact .inl h1
   ·
    refine .inr ⟨r, List.mem_cons_self .., ?_⟩
    rcases Nat.le_total m r.f0.length with h2 | h2
    ·
     rwa [Nat.max_eq_right h2] at h
    ·
     rw [Nat.max_eq_left h2] at h; omega
  ·
   exact .inr ⟨x, List.mem_cons_of_mem _ hx, h⟩
theorem any_true {L : List Rk} {d : Nat} (h : d < depths L) : anyD d L = true := by
 rcases depths_mem L 0 d h with h | ⟨x, hx, h⟩
 ·
  omega
 ·
  exact List.any_eq_true.2 ⟨x, hx, decide_eq_true h⟩
theorem any_false {L : List Rk} : anyD (depths L) L = false := by
 refine List.any_eq_false.2 (fun x hx => ?_)
 rw [decide_eq_true_eq]
 exact Nat.not_lt.2 ((le_depths L 0).2 x hx)
theorem rowD_none (L : List Rk) (d : Nat) : ∀ (l : List Rk) (acc : List Sc), anyD d l = false → rowD L d l acc = acc
 | [], acc, _ => rfl
 | r :: l, acc, h => by
  unfold anyD at h
  rw [List.any_cons, Bool.or_eq_false_iff, decide_eq_false_iff_not] at h
  rw [rowD_cons, dif_neg h.1]
  exact rowD_none L d l acc h.2
/-- The scores that are good, and their sum. -/
theorem good_scores {L : List Rk} (h : RankG.good L = true) : ∀ x ∈ L, ∀ y ∈ x.f0, 0 ≤ y.f0 ∧ y.f0 ≤ 1000 ∧ 1 ≤ y.f1 ∧ y.f1 ≤ 1000000 := by
 intro x hx y hy
 unfold RankG.good at h
 rw [Bool.and_eq_true, Bool.not_eq_true', List.any_eq_false] at h
 have h3 := h.2 x hx
 unfold RankG.bad Rank.rankOK at h3
 simp only [Bool.not_eq_true', Bool.not_eq_false, Bool.and_eq_true, decide_eq_true_eq] at h3
 obtain ⟨i, hi, rfl⟩ := List.mem_iff_getElem.1 hy
 have h4 := (List.all_eq_true.1 h3.2) i (List.mem_range.2 hi)
 unfold Rank.entryOK at h4
 simp only [Bool.and_eq_true, decide_eq_true_eq] at h4
 rw [RankP.rd_at x.f0 i hi] at h4
 exact ⟨h4.1.1.1.1, h4.1.1.1.2, h4.1.1.2.1, h4.1.1.2.2⟩
set_option maxRecDepth 100000 in
theorem thr_bound (d : Nat) : ∀ (l : List Rk) (s : Int), l.length ≤ 1000 → (∀ x ∈ l, ∀ y ∈ x.f0, 0 ≤ y.f1 ∧ y.f1 ≤ 1000000) → 0 ≤ s → s + l.length * 1000000 ≤ 1000000000000 → s ≤ thrD d l s ∧ thrD d l s ≤ s + l.length * 1000000
 | [], s, _, _, _, _ => ⟨Int.le_refl _, by show s ≤ s + ((0 : Nat) : Int) * 1000000; omega⟩
 | r :: l, s, hl, h, h0, h1 => by
  rw [thrD_cons, List.length_cons]
  rw [List.length_cons] at hl h1
  have hx := fun x hm => h x (List.mem_cons_of_mem _ hm)
  split
  ·
   rename_i hd
   have hy := h r (List.mem_cons_self ..) _ (List.getElem_mem hd)
   obtain ⟨y, ey⟩ : ∃ y, y = r.f0[d].f1 := ⟨_, rfl⟩
   rw [← ey] at hy ⊢
   clear ey h hd
   obtain ⟨n, en⟩ : ∃ n, n = l.length := ⟨_, rfl⟩
   rw [← en] at hl h1
   have a1 : s + (n : Int) * 1000000 + 1000000 ≤ 1000000000000 := by omega
   have a2 : 0 ≤ (n : Int) * 1000000 := by omega
   have a3 : wrap64 (s + y) = s + y := w64 (by omega) (by omega)
   rw [a3]
   have ih := thr_bound d l (s + y) (by rw [← en]; omega) hx (by omega) (by rw [← en]; omega)
   rw [← en] at ih ⊢
   clear hx a3
   omega
  ·
   have ih := thr_bound d l s (by omega) hx h0 (by omega)
   omega
theorem above_iff (t : Int) : ∀ (S : List Sc) (k : Nat), S.Pairwise (fun a b => b.f1 ≤ a.f1) → (k + 1 ≤ above t S ↔ ∃ h : k < S.length, t < S[k].f1)
 | [], k, _ => ⟨fun h => absurd h (Nat.not_succ_le_zero k), fun ⟨h, _⟩ => absurd h (Nat.not_lt_zero k)⟩
 | a :: S, k, hp => by
  obtain ⟨h1, h2⟩ := List.pairwise_cons.1 hp
  unfold above
  rw [List.countP_cons]
  by_cases ha : t < a.f1
  ·
   rw [if_pos (decide_eq_true ha)]
   cases k with
   | zero => exact ⟨fun _ => ⟨by simp, ha⟩, fun _ => by omega⟩
   | succ k =>
    have ih := above_iff t S k h2
    unfold above at ih
    constructor
    ·
     intro h
     obtain ⟨q, hq⟩ := ih.1 (by omega)
     exact ⟨by simpa using q, by simpa using hq⟩
    ·
     rintro ⟨q, hq⟩
     have := ih.2 ⟨by simpa using q, by simpa using hq⟩
     omega
  ·
   have h0 : S.countP (fun x => decide (t < x.f1)) = 0 := by
    rw [List.countP_eq_zero]
    intro x hx
    rw [decide_eq_true_eq]
    have := h1 x hx
    omega
   rw [if_neg (by rw [decide_eq_true_eq]; exact ha), h0]
   constructor
   ·
    intro h; omega
   ·
    rintro ⟨q, hq⟩
    exfalso
    cases k with
    | zero => exact ha hq
    | succ k =>
     have hm : S[k]'(by simpa using q) ∈ S := List.getElem_mem _
     have := h1 _ hm
     have hq2 : t < (S[k]'(by simpa using q)).f1 := by simpa using hq
     omega
theorem ord_falls {S : List Sc} (h : SoB.Ord S) : S.Pairwise (fun a b => b.f1 ≤ a.f1) := by
 refine List.Pairwise.imp (fun {a b} hab => ?_) h
 rw [SoB.le_iff] at hab
 omega
theorem above_sort (t : Int) (acc : List Sc) : above t (acc.mergeSort SoB.le) = above t acc := (List.mergeSort_perm acc SoB.le).countP_eq _
theorem any_cons (d : Nat) (r : Rk) (l : List Rk) : anyD d (r :: l) = (decide (d < r.f0.length) || anyD d l) := rfl
theorem spec_1 (L : List Rk) (hL : L.length ≤ 5) (hx : ∀ x ∈ L, x.f0.length ≤ 60) (k1 : Int) (d : Nat) (r : List Sc × Int × Bool) : ∀ (n i : Nat) (acc : List Sc) (s : Int) (b : Bool), i + n = L.length → acc.length + n ≤ 1000 →
  Evt (fun k => spec_TopBest.l1 k L k1 ((rowD L d (L.drop i) acc).mergeSort SoB.le) (d : Int) (thrD d (L.drop i) s) (b || anyD d (L.drop i)) L (L.length : Int) (L.length : Int)) r →
  Evt (fun k => spec_TopBest.l1 k L k1 (acc.mergeSort SoB.le) (d : Int) s b L (L.length : Int) (i : Int)) r := by
 intro n
 induction n with
 | zero =>
  intro i acc s b hi ha h
  rw [List.drop_eq_nil_of_le (by omega), show (b || anyD d []) = b from Bool.or_false b] at h
  rw [show i = L.length by omega]
  exact h
 | succ n ih =>
  intro i acc s b hi ha h
  have hil : i < L.length := by omega
  have h60 := hx _ (List.getElem_mem hil)
  rw [List.drop_eq_getElem_cons hil, rowD_cons, thrD_cons, any_cons] at h
  refine Evt.step (fun k => spec_TopBest.l1.eq_2 _ _ _ _ _ _ _ _ _ k) (Evt.pos (by omega) (Evt.pos (by omega) (Evt.pos (by omega) ?_)))
  rw [RankP.rd_atR L i hil, w64 (n := (i : Int) + 1) (by omega) (by omega), show (i : Int) + 1 = ((i + 1 : Nat) : Int) by omega]
  by_cases hd : d < L[i].f0.length
  ·
   rw [dif_pos hd, dif_pos hd, decide_eq_true hd, Bool.true_or, Bool.or_true] at h
   refine Evt.pos (by omega) (Evt.pos (by omega) ?_)
   rw [RankP.rd_at L[i].f0 d hd]
   refine Evt.bind (RankS.spec_l11Sum_ev L[i].f0[d].f0 L (by omega) (fun x h => by have := hx x h; omega)) (Evt.bind (SoB.put_ev (acc.mergeSort SoB.le) (by rw [List.length_mergeSort]; omega) L[i].f0[d].f0 _) ?_)
   rw [← SoB.met_sort]
   exact ih (i + 1) _ _ true (by omega) (by have := SoB.met_len L L[i].f0[d].f0 acc; omega) h
  ·
   rw [dif_neg hd, dif_neg hd, decide_eq_false hd, Bool.false_or] at h
   exact Evt.neg (by omega) (ih (i + 1) acc s b (by omega) (by omega) h)
theorem spec_0 (L : List Rk) (hL : L.length ≤ 5) (hx : ∀ x ∈ L, x.f0.length ≤ 60) (hs : ∀ x ∈ L, ∀ y ∈ x.f0, 0 ≤ y.f1 ∧ y.f1 ≤ 1000000) (k1 : Nat) (hk0 : 0 < k1) (hk : k1 ≤ 60) : ∀ (n d : Nat) (acc : List Sc), d + n = depths L → acc.length ≤ d * 5 →
  Evt (fun k => spec_TopBest.l0 k L (k1 : Int) (acc.mergeSort SoB.le) (d : Int)) ((topI L k1 n d acc).1, (topI L k1 n d acc).2, true) := by
 have hD : depths L ≤ 60 := depths_le L 0 60 (Nat.zero_le _) hx
 intro n
 induction n with
 | zero =>
  intro d acc hd ha
  refine Evt.step (fun k => spec_TopBest.l0.eq_2 _ _ _ _ k) (spec_1 L hL hx (k1 : Int) d _ L.length 0 acc 0 false (by omega) (by omega) ?_)
  rw [List.drop_zero, Bool.false_or, show d = depths L by omega, any_false, rowD_none L _ L acc any_false]
  refine Evt.step (fun k => spec_TopBest.l1.eq_2 _ _ _ _ _ _ _ _ _ k) (Evt.neg (by omega) (Evt.neg (by decide) ?_))
  rw [SoB.first_ev _ (by rw [List.length_mergeSort]; omega) k1 hk]
  exact Evt.bsome (Evt.const _)
 | succ n ih =>
  intro d acc hd ha
  refine Evt.step (fun k => spec_TopBest.l0.eq_2 _ _ _ _ k) (spec_1 L hL hx (k1 : Int) d _ L.length 0 acc 0 false (by omega) (by omega) ?_)
  have hlen := rowD_len L d L acc
  have hth := thr_bound d L 0 (by omega) hs (by omega) (by omega)
  rw [List.drop_zero, Bool.false_or, any_true (L := L) (d := d) (by omega)]
  obtain ⟨S, hS⟩ : ∃ S, S = (rowD L d L acc).mergeSort SoB.le := ⟨_, rfl⟩
  have hSl : S.length = (rowD L d L acc).length := by rw [hS, List.length_mergeSort]
  have habove : above (thrD d L 0) (rowD L d L acc) = above (thrD d L 0) S := by rw [hS, above_sort]
  have hiff := above_iff (thrD d L 0) S (k1 - 1) (ord_falls (by rw [hS]; exact SoB.ord_sort _))
  rw [show k1 - 1 + 1 = k1 by omega] at hiff
  have next : ¬ k1 ≤ above (thrD d L 0) (rowD L d L acc) → Evt (fun k => spec_TopBest.l0 k L (k1 : Int) S (wrap64 ((d : Int) + 1))) ((topI L k1 (n + 1) d acc).1, (topI L k1 (n + 1) d acc).2, true) := by
   intro hno
   have e : topI L k1 (n + 1) d acc = topI L k1 n (d + 1) (rowD L d L acc) := by
    show (if _ then _ else _) = _
    rw [if_neg hno]
   rw [e, hS, w64 (n := (d : Int) + 1) (by omega) (by omega), show (d : Int) + 1 = ((d + 1 : Nat) : Int) by omega]
   exact ih (d + 1) _ (by omega) (by omega)
  rw [← hS]
  refine Evt.step (fun k => spec_TopBest.l1.eq_2 _ _ _ _ _ _ _ _ _ k) (Evt.neg (by omega) (Evt.pos rfl ?_))
  rw [w64 (n := (k1 : Int) - 1) (by omega) (by omega), w64 (n := thrD d L 0 + 1) (by omega) (by omega), show (k1 : Int) - 1 = ((k1 - 1 : Nat) : Int) by omega]
  by_cases hlk : k1 ≤ S.length
  ·
   refine Evt.pos (by omega) (Evt.pos (by omega) (Evt.pos (by omega) ?_))
   rw [RankP.rd_at S (k1 - 1) (by omega)]
   by_cases ht : thrD d L 0 + 1 ≤ (S[k1 - 1]'(by omega)).f1
   ·
    have hyes : k1 ≤ above (thrD d L 0) (rowD L d L acc) := by rw [habove]; exact hiff.2 ⟨by omega, by omega⟩
    refine Evt.pos ht ?_
    rw [SoB.first_ev _ (by omega) k1 hk, w64 (n := (d : Int) + 1) (by omega) (by omega), show (d : Int) + 1 = ((d + 1 : Nat) : Int) by omega]
    have e : topI L k1 (n + 1) d acc = (S.take k1, ((d + 1 : Nat) : Int)) := by
     show (if _ then _ else _) = _
     rw [if_pos hyes, hS]
    rw [e]
    exact Evt.bsome (Evt.const _)
   ·
    refine Evt.neg ht (next (fun h => ht ?_))
    rw [habove] at h
    obtain ⟨_, h⟩ := hiff.1 h
    omega
  ·
   refine Evt.neg (by omega) (next (fun h => hlk ?_))
   rw [habove] at h
   obtain ⟨h, _⟩ := hiff.1 h
   omega
theorem topBestS_ev (L : List Rk) (hL : L.length ≤ 1048576) (hl : ∀ x ∈ L, x.f0.length ≤ 1048576) (k : Int) : Evt (fun n => spec_TopBest.f n L k) (ansTB L k) := by
 unfold spec_TopBest.f ansTB
 refine Evt.bind (RankP.spec_ev L hL hl) ?_
 by_cases hg : RankG.good L = true
 ·
  refine Evt.pos hg ?_
  rw [RankP.in_ev]
  refine Evt.bsome ?_
  by_cases hk : 0 ≤ k ∧ k ≤ 60
  ·
   rw [if_pos ⟨hg, hk⟩, decide_eq_true hk]
   obtain ⟨n, rfl⟩ := Int.eq_ofNat_of_zero_le hk.1
   obtain ⟨h5, h60⟩ := SoB.good_facts hg
   refine Evt.step (fun k => spec_TopBest.j0.eq_2 _ _ _ k) (Evt.neg (by decide) ?_)
   rw [Int.toNat_natCast]
   unfold ansT
   by_cases h0 : n = 0
   ·
    subst h0
    exact Evt.pos rfl (Evt.const _)
   ·
    rw [if_neg h0]
    refine Evt.neg (by omega) ?_
    have h := spec_0 L h5 h60 (fun x hx y hy => by have := good_scores hg x hx y hy; omega) n (by omega) (by omega) (depths L) 0 [] (by omega) (Nat.zero_le _)
    rw [show ([] : List Sc).mergeSort SoB.le = [] by simp] at h
    exact h
  ·
   rw [if_neg (fun h => hk h.2), decide_eq_false hk]
   exact Evt.step (fun k => spec_TopBest.j0.eq_2 _ _ _ k) (Evt.pos rfl (Evt.const _))
 ·
  rw [if_neg (fun h => hg h.1)]
  exact Evt.neg hg (Evt.step (fun k => spec_TopBest.j0.eq_2 _ _ _ k) (Evt.pos rfl (Evt.const _)))
end Go.Proofs.Ytaomjndfjmfelaa.TopB
end

section
namespace Go.Proofs.Ytaomjndfjmfelaa.TopB
set_option linter.unusedVariables false
set_option linter.unusedSimpArgs false
open Go.RowKit Go.Shelf Go.Lib Go.Sort Go.Proofs.Ytaomjndfjmfelaa.PQ Go.Proofs.YtaomjndfjmfelaaW.PrintWords Go.Proofs.YtaomjndfjmfelaaW.PrintLast Go.Proofs.YtaomjndfjmfelaaW.PrintMore Go.Proofs.Ytaomjndfjmfelaa.Pre Go.Proofs.Ytaomjndfjmfelaa.SoB
attribute [local go_sem] max2_int max_two
theorem depths_step (L : List Rk) (i : Nat) (h : i < L.length) : depths (L.take (i + 1)) = max (depths (L.take i)) L[i].f0.length := by
 unfold depths
 rw [take_last L i h, List.foldl_append]
 rfl
theorem rowD_step (L : List Rk) (d : Nat) (l : List Rk) (i : Nat) (h : i < l.length) (acc : List Sc) : rowD L d (l.take (i + 1)) acc = if h2 : d < l[i].f0.length then Meet.met L (l[i].f0[d]).f0 (rowD L d (l.take i) acc) else rowD L d (l.take i) acc := by
 unfold rowD
 rw [take_last l i h, List.foldl_append]
 rfl
theorem thrD_step (d : Nat) (l : List Rk) (i : Nat) (h : i < l.length) (s : Int) : thrD d (l.take (i + 1)) s = if h2 : d < l[i].f0.length then wrap64 (thrD d (l.take i) s + (l[i].f0[d]).f1) else thrD d (l.take i) s := by
 unfold thrD
 rw [take_last l i h, List.foldl_append]
 rfl
theorem above_step (t : Int) (l : List Sc) (j : Nat) (h : j < l.length) : above t (l.take (j + 1)) = if t < l[j].f1 then above t (l.take j) + 1 else above t (l.take j) := by
 unfold above
 rw [take_last l j h, List.countP_append, List.countP_singleton]
 by_cases hx : t < l[j].f1
 ·
  rw [if_pos hx, if_pos (decide_eq_true hx)]
 ·
  rw [if_neg hx, if_neg (by rw [decide_eq_true_eq]; exact hx)]
  rfl
theorem above_le (t : Int) (l : List Sc) : above t l ≤ l.length := List.countP_le_length
set_option maxRecDepth 100000 in
set_option maxHeartbeats 8000000 in
theorem topBest_calls (L : List Rk) (A : Option Addr) (c k : Nat) (w : World) (hr : Kd.C k77 w A L.length L) (hc : L.length ≤ c) (h5 : L.length ≤ 5) (h60 : ∀ x ∈ L, x.f0.length ≤ 60) (hk : k ≤ 60) :
  Calls Try.prog 107 #[.slice A L.length c, .int .i64 (k : Int)] w fun e w' => ∃ v : Value, e = .returned (.tuple #[v, .int .i64 (ansT L k).2]) ∧ Kd.R k79 79 w' w.heap.size (fun _ => True) v (ansT L k).1 ∧ Below w.heap.size w w' := by
 have HR := aM hr
 have HC := aM hc
 have HK := aM hk
 have HF : Aside0 (L.length ≤ 5 ∧ ∀ x ∈ L, x.f0.length ≤ 60) := ⟨⟨h5, h60⟩⟩
 have hlen : (L.length : Int) ≤ 5 := by omega
 have hk60 : (k : Int) ≤ 60 := by omega
 obtain ⟨D, hD⟩ : ∃ D, D = depths L := ⟨_, rfl⟩
 have HDD := aM hD
 have hD60 : (D : Int) ≤ 60 := by
  have := depths_le L 0 60 (Nat.zero_le _) h60
  rw [hD]
  unfold depths
  omega
 have HD60 := aM hD60
 clear hr hc hk h5 h60 hD
 go_enter Try.func107, Try.ntmps107
 go_upto_region 2 with (fail)
 obtain ⟨w3, hw3⟩ : ∃ W_, W_ = w.alloc (.cells #[.slice A L.length c, .slice none 0 0] 123) := ⟨_, rfl⟩
 rw [← hw3]
 have HM3 := aM (show w3.heap[w.heap.size]? = some (.cells #[.slice A L.length c, .slice none 0 0] 123 (0, 0)) by rw [hw3]; exact Meet.at_new w _)
 have HB3 := aM (show Below w.heap.size w w3 by rw [hw3]; exact below_alloc (Below.refl _ _) _)
 clear hw3
 go_wp2
 go_loopg [7, 21] L.length (fun kq v7 v21 w' => ∃ (i m : Nat), v7 = .int .i64 (m : Int) ∧ v21 = .int .i64 (i : Int) ∧ i ≤ L.length ∧ kq = L.length - i ∧ Aside0 (m = depths (L.take i)) ∧ Aside0 (w'.heap[w.heap.size]? = some (.cells #[.slice A L.length c, .slice none 0 0] 123 (0, 0))) ∧ Aside0 (Below w.heap.size w w'))
 case atStart => exact ⟨0, 0, rfl, rfl, Nat.zero_le _, rfl, ⟨rfl⟩, HM3, HB3⟩
 case round =>
  clear HM3 HB3
  obtain ⟨i, m, rfl, rfl, hi, hkq, HE, HM, HB⟩ := hrel
  have HKQ := aM hkq
  clear hkq
  by_cases hlt : i < L.length
  ·
   obtain ⟨ad, A0, c0, ead, hcell, hc0, hC0⟩ := at_T77 HR.out (i : Int) (by omega) (by omega)
   replace hcell := (HB.out.cell (World.block_lt_of_cell? w _ hcell)).trans hcell
   subst ead
   have HLT := aM hlt
   have hrd : rd_T77 L (i : Int) = L[i]'HLT.out := RankP.rd_atR L i hlt
   rw [Int.toNat_natCast, hrd] at hcell
   obtain ⟨r, hrr⟩ : ∃ r, r = (L[i]'HLT.out).f0 := ⟨_, rfl⟩
   rw [← hrr] at hcell
   have HST := aM (depths_step L i HLT.out)
   rw [← hrr] at HST
   have hlt2 : (i : Int) < (L.length : Int) := by omega
   by_cases hml : m < r.length
   ·
    have hml2 : (m : Int) < (r.length : Int) := by omega
    have HMX : Aside0 (r.length = max m r.length) := ⟨by omega⟩
    clear hrd hrr hlt hi hc0 hC0 hml
    go_wp2
    go_roundg (L.length - (i + 1))
    case measure => have := HKQ.out; have := HLT.out; omega
    case rel => exact ⟨i + 1, r.length, rfl, by go_num, HLT.out, rfl, ⟨by rw [HST.out, ← HE.out]; exact HMX.out⟩, ⟨blk_alloc HM.out _⟩, ⟨below_alloc HB.out _⟩⟩
   ·
    have hml2 : ¬ ((m : Int) < (r.length : Int)) := by omega
    have HMX : Aside0 (m = max m r.length) := ⟨by omega⟩
    clear hrd hrr hlt hi hc0 hC0 hml
    go_wp2
    go_roundg (L.length - (i + 1))
    case measure => have := HKQ.out; have := HLT.out; omega
    case rel => exact ⟨i + 1, m, rfl, by go_num, HLT.out, rfl, ⟨by rw [HST.out, ← HE.out]; exact HMX.out⟩, ⟨blk_alloc HM.out _⟩, ⟨below_alloc HB.out _⟩⟩
  ·
   obtain rfl : i = L.length := by omega
   have hmD : D = m := by rw [HE.out, List.take_length, HDD.out]
   subst hmD
   clear hi hlt
   by_cases hk0 : k = 0
   ·
    have hkb : ((k : Int) == 0) = true := by rw [hk0]; rfl
    have HK0 := aM hk0
    clear hk0
    go_wp2
    go_ret2
    rw [show ansT L k = ([], 0) by unfold ansT; rw [if_pos HK0.out]]
    exact ⟨_, rfl, Kd.R_nil _ _ _ _ _, HB.out⟩
   ·
    have hkb : ((k : Int) == 0) = false := by rw [beq_eq_false_iff_ne]; omega
    have HK0 := aM hk0
    clear hk0
    go_wp2
    clear hkb
    go_loopg [34] D (fun kq v34 w' => ∃ (d : Nat) (v : Value) (acc : List Sc), v34 = .int .i64 (d : Int) ∧ d ≤ D ∧ kq = D - d ∧ Aside0 (w'.heap[w.heap.size]? = some (.cells #[.slice A L.length c, v] 123 (0, 0))) ∧ Aside0 (Kd.R k79 79 w' w.heap.size (fun _ => True) v acc) ∧ Aside0 (Below w.heap.size w w') ∧ Aside0 (topI L k (D - d) d acc = ansT L k) ∧ Aside0 (acc.length ≤ d * 5))
    case atStart => exact ⟨0, _, [], rfl, Nat.zero_le _, rfl, HM, ⟨Kd.R_nil _ _ _ _ _⟩, HB, ⟨by unfold ansT; rw [if_neg HK0.out, HDD.out]; rfl⟩, ⟨Nat.zero_le _⟩⟩
    case round =>
     clear HM HB HE HKQ
     obtain ⟨d, v, acc, rfl, hdD, hkq, HM, HO, HB, HT, HLn⟩ := hrel
     have HKQ := aM hkq
     clear hkq
     by_cases hlt : d < D
     ·
      have HLT := aM hlt
      have hlt2 : (d : Int) < (D : Int) := by omega
      have hd60 : (d : Int) < 60 := by omega
      clear hlt hdD
      go_wp2
      go_loopg [11, 39] L.length (fun kq v11 v39 w' => ∃ (i : Nat) (z : Int) (u : Value) (l2 : List Sc), v11 = .int .i64 z ∧ v39 = .int .i64 (i : Int) ∧ i ≤ L.length ∧ kq = L.length - i ∧ Aside0 (z = thrD d (L.take i) 0) ∧ Aside0 (w'.heap[w.heap.size]? = some (.cells #[.slice A L.length c, u] 123 (0, 0))) ∧ Aside0 (Kd.R k79 79 w' w.heap.size (fun _ => True) u l2) ∧ Aside0 (Below w.heap.size w w') ∧ Aside0 (l2 = rowD L d (L.take i) acc) ∧ Aside0 (l2.length ≤ d * 5 + i))
      case atStart => exact ⟨0, 0, v, acc, rfl, rfl, Nat.zero_le _, rfl, ⟨rfl⟩, HM, HO, HB, ⟨rfl⟩, ⟨by have := HLn.out; omega⟩⟩
      case round =>
       clear HM HO HB
       obtain ⟨i, z, u, l2, rfl, rfl, hi, hkq2, HZ, HM, HO, HB, HE, HL5⟩ := hrel
       have HKQ2 := aM hkq2
       clear hkq2
       by_cases hit : i < L.length
       ·
        obtain ⟨ad, A0, c0, ead, hcell, hc0, hC0⟩ := at_T77 HR.out (i : Int) (by omega) (by omega)
        replace hcell := (HB.out.cell (World.block_lt_of_cell? w _ hcell)).trans hcell
        subst ead
        have HIT := aM hit
        have hrd : rd_T77 L (i : Int) = L[i]'HIT.out := RankP.rd_atR L i hit
        rw [Int.toNat_natCast, hrd] at hcell
        rw [hrd] at hc0 hC0
        have HSR := aM (rowD_step L d L i HIT.out acc)
        have HSZ := aM (thrD_step d L i HIT.out 0)
        obtain ⟨r, hrr⟩ : ∃ r, r = (L[i]'HIT.out).f0 := ⟨_, rfl⟩
        have hr60 : r.length ≤ 60 := by rw [hrr]; exact HF.out.2 _ (List.getElem_mem hit)
        simp only [← hrr] at hcell hc0 hC0 HSR HSZ
        have HC0 := aM hC0
        have hit2 : (i : Int) < (L.length : Int) := by omega
        have hrl : (r.length : Int) ≤ 60 := by omega
        by_cases hd : d < r.length
        ·
         have HDR := aM hd
         obtain ⟨ad2, ead2, hs0, hs1⟩ := at_T79 (Kd.C_below HC0.out HB.out) (d : Int) (by omega) (by omega)
         subst ead2
         have hrd2 : rd_T79 r (d : Int) = r[d]'HDR.out := RankP.rd_at r d hd
         rw [Int.toNat_natCast, hrd2] at hs0 hs1
         rw [dif_pos HDR.out] at HSR HSZ
         obtain ⟨x, hx⟩ : ∃ x, x = r[d]'HDR.out := ⟨_, rfl⟩
         rw [← hx] at hs0 hs1 HSR HSZ
         have hd2 : (d : Int) < (r.length : Int) := by omega
         have hba : Below wr.heap.size wr (wr.alloc (.cells #[.slice (some ad2) r.length c0] 77)) := below_alloc (Below.refl _ _) _
         replace hs0 := (hba.cell (World.block_lt_of_cell? wr _ hs0)).trans hs0
         replace hs1 := (hba.cell (World.block_lt_of_cell? wr _ hs1)).trans hs1
         clear hba
         have HMC := aM (fun W (hW : W = wr.alloc (.cells #[.slice (some ad2) r.length c0] 77)) => Meet.meet_calls w (some ad) c L w.heap.size u l2 x.f0 W (by rw [hW]; exact below_alloc HB.out _) HR.out HC.out (by have := HF.out.1; omega) (fun y hy => by have := HF.out.2 y hy; omega) (Nat.le_refl _) (by rw [hW]; exact blk_alloc HM.out _) (by rw [hW]; exact Kd.R_alloc HO.out _) (by have := HL5.out; have := HF.out.1; have := HLT.out; have := HD60.out; omega))
         clear hrd hrd2 hx hd hit hi hrr hr60 hC0
         go_wp2_with (go_at_call 100; go_loud ((refine (HMC.out _ rfl).mono ?_); rintro e w6 ⟨rfl, v6, hm6, ho6, hb6⟩; have HM6 := aM hm6; have HO6 := aM ho6; have HB6 := aM hb6; clear hm6 ho6 hb6))
         go_roundg (L.length - (i + 1))
         case measure => have := HKQ2.out; have := HIT.out; omega
         case rel => exact ⟨i + 1, _, v6, _, rfl, by go_num, HIT.out, rfl, ⟨by rw [HSZ.out, HZ.out]⟩, HM6, HO6, HB6, ⟨by rw [HSR.out, HE.out]⟩, ⟨by have := met_len L x.f0 l2; have := HL5.out; omega⟩⟩
        ·
         have HDR := aM hd
         rw [dif_neg HDR.out] at HSR HSZ
         have hd2 : ¬ ((d : Int) < (r.length : Int)) := by omega
         have hd3 : decide ((d : Int) < (r.length : Int)) = false := decide_eq_false hd2
         clear hrd hd hit hi hrr hr60 hC0
         go_wp2
         go_roundg (L.length - (i + 1))
         case measure => have := HKQ2.out; have := HIT.out; omega
         case rel => exact ⟨i + 1, z, u, l2, rfl, by go_num, HIT.out, rfl, ⟨by rw [HSZ.out, HZ.out]⟩, ⟨blk_alloc HM.out _⟩, ⟨Kd.R_alloc HO.out _⟩, ⟨below_alloc HB.out _⟩, ⟨by rw [HSR.out, HE.out]⟩, ⟨by have := HL5.out; omega⟩⟩
       ·
        obtain rfl : i = L.length := by omega
        have HE2 : Aside0 (l2 = rowD L d L acc) := ⟨by rw [HE.out, List.take_length]⟩
        have HZ2 : Aside0 (z = thrD d L 0) := ⟨by rw [HZ.out, List.take_length]⟩
        clear hi hit HE HZ HKQ2
        obtain ⟨Au, cu, rfl⟩ := Kd.R_slice HO.out
        have hcl1 : wr.cell? ⟨w.heap.size, 1, none⟩ = some (.slice Au l2.length cu) := Meet.cell1 HM.out
        have hl2 : (l2.length : Int) ≤ 1000 := by have := HL5.out; have := HF.out.1; omega
        go_wp2
        go_loopg [12, 67] l2.length (fun kq v12 v67 w' => ∃ (j m : Nat), v12 = .int .i64 (m : Int) ∧ v67 = .int .i64 (j : Int) ∧ j ≤ l2.length ∧ kq = l2.length - j ∧ Aside0 (m = above z (l2.take j)) ∧ Aside0 (w'.heap[w.heap.size]? = some (.cells #[.slice A L.length c, .slice Au l2.length cu] 123 (0, 0))) ∧ Aside0 (Kd.R k79 79 w' w.heap.size (fun _ => True) (.slice Au l2.length cu) l2) ∧ Aside0 (Below w.heap.size w w'))
        case atStart => exact ⟨0, 0, rfl, rfl, Nat.zero_le _, rfl, ⟨rfl⟩, HM, HO, HB⟩
        case round =>
         clear HM HO HB hcl1
         obtain ⟨j, m, rfl, rfl, hj, hkq3, HMJ, HM, HO, HB⟩ := hrel
         have HKQ3 := aM hkq3
         clear hkq3
         have hm60 : m ≤ 1000 := by
          have h1 := above_le z (l2.take j)
          rw [← HMJ.out, List.length_take] at h1
          omega
         by_cases hjt : j < l2.length
         ·
          obtain ⟨ad2, ead2, hs0, hs1⟩ := at_T79 (Kd.R_reads' HO.out).2.2 (j : Int) (by omega) (by omega)
          subst ead2
          have HJT := aM hjt
          have hrd2 : rd_T79 l2 (j : Int) = l2[j]'HJT.out := RankP.rd_at l2 j hjt
          rw [Int.toNat_natCast, hrd2] at hs0 hs1
          have HST := aM (above_step z l2 j HJT.out)
          obtain ⟨x, hx⟩ : ∃ x, x = l2[j]'HJT.out := ⟨_, rfl⟩
          rw [← hx] at hs0 hs1 HST
          have hj2 : (j : Int) < (l2.length : Int) := by omega
          have hm2 : (m : Int) ≤ 1000 := by omega
          by_cases ht : z < x.f1
          ·
           have htb : decide (z < x.f1) = true := decide_eq_true ht
           rw [if_pos ht] at HST
           clear hrd2 hx hjt hj hm60
           go_wp2
           go_roundg (l2.length - (j + 1))
           case measure => have := HKQ3.out; have := HJT.out; omega
           case rel => exact ⟨j + 1, m + 1, by go_num, by go_num, HJT.out, rfl, ⟨by rw [HST.out, HMJ.out]⟩, ⟨blk_alloc HM.out _⟩, ⟨Kd.R_alloc HO.out _⟩, ⟨below_alloc HB.out _⟩⟩
          ·
           have htb : decide (z < x.f1) = false := decide_eq_false ht
           rw [if_neg ht] at HST
           clear hrd2 hx hjt hj hm60
           go_wp2
           go_roundg (l2.length - (j + 1))
           case measure => have := HKQ3.out; have := HJT.out; omega
           case rel => exact ⟨j + 1, m, rfl, by go_num, HJT.out, rfl, ⟨by rw [HST.out, HMJ.out]⟩, ⟨blk_alloc HM.out _⟩, ⟨Kd.R_alloc HO.out _⟩, ⟨below_alloc HB.out _⟩⟩
         ·
          obtain rfl : j = l2.length := by omega
          have HMA : Aside0 (m = above (thrD d L 0) (rowD L d L acc)) := ⟨by rw [HMJ.out, List.take_length, HZ2.out, HE2.out]⟩
          have HSTEP : Aside0 (ansT L k = if k ≤ m then ((l2.mergeSort le).take k, ((d + 1 : Nat) : Int)) else topI L k (D - (d + 1)) (d + 1) l2) := ⟨by
           rw [← HT.out, show D - d = (D - (d + 1)) + 1 by have := HLT.out; omega, HMA.out, HE2.out]
           rfl⟩
          clear hj hjt HMJ
          by_cases hkm : k ≤ m
          ·
           rw [if_pos hkm] at HSTEP
           have HBC := aM (fun W (hW : W = wr) => best_calls w (.slice A L.length c) w.heap.size (.slice Au l2.length cu) l2 k W (by rw [hW]; exact HB.out) (Nat.le_refl _) (by rw [hW]; exact HM.out) (by rw [hW]; exact HO.out) (by have := HL5.out; have := HF.out.1; have := HLT.out; have := HD60.out; omega) (by have := HK.out; omega))
           have HWS := aM HB.out.size
           clear hm60
           go_wp2_with (go_at_call 101; go_loud ((refine (HBC.out _ rfl).mono ?_); rintro e w7 ⟨v7, rfl, ho7, hb7⟩; have HO7 := aM ho7; have HB7 := aM hb7; clear ho7 hb7))
           go_ret2
           rw [HSTEP.out]
           exact ⟨_, rfl, Kd.R_lower HO7.out HWS.out, HB7.out⟩
          ·
           rw [if_neg hkm] at HSTEP
           clear hm60
           go_wp2
           go_roundg (D - (d + 1))
           case measure => have := HKQ.out; have := HLT.out; omega
           case rel => exact ⟨d + 1, _, l2, by go_num, HLT.out, rfl, HM, HO, HB, ⟨HSTEP.out.symm⟩, ⟨by have := HL5.out; have := HF.out.1; omega⟩⟩
     ·
      obtain rfl : d = D := by omega
      have HBC := aM (fun W (hW : W = wr) => best_calls w (.slice A L.length c) w.heap.size v acc k W (by rw [hW]; exact HB.out) (Nat.le_refl _) (by rw [hW]; exact HM.out) (by rw [hW]; exact HO.out) (by have := HLn.out; have := HD60.out; omega) (by have := HK.out; omega))
      have HWS := aM HB.out.size
      have HSTEP : Aside0 (ansT L k = ((acc.mergeSort le).take k, (d : Int))) := ⟨by rw [← HT.out, Nat.sub_self]; rfl⟩
      clear hdD hlt
      go_wp2_with (go_at_call 101; go_loud ((refine (HBC.out _ rfl).mono ?_); rintro e w7 ⟨v7, rfl, ho7, hb7⟩; have HO7 := aM ho7; have HB7 := aM hb7; clear ho7 hb7))
      go_ret2
      rw [HSTEP.out]
      exact ⟨_, rfl, Kd.R_lower HO7.out HWS.out, HB7.out⟩
end Go.Proofs.Ytaomjndfjmfelaa.TopB
end

section
namespace Go.Proofs.Ytaomjndfjmfelaa.TopB
set_option linter.unusedVariables false
set_option linter.unusedSimpArgs false
open Go.RowKit Go.Shelf Go.Lib Go.Sort Go.Proofs.Ytaomjndfjmfelaa.PQ Go.Proofs.YtaomjndfjmfelaaW.PrintWords Go.Proofs.YtaomjndfjmfelaaW.PrintLast Go.Proofs.YtaomjndfjmfelaaW.PrintMore Go.Proofs.Ytaomjndfjmfelaa.Pre Go.Proofs.Ytaomjndfjmfelaa.SoB
set_option maxRecDepth 100000 in
set_option maxHeartbeats 2000000 in
theorem topBestI (L : List Rk) (A : Option Addr) (c : Nat) (a : Int) (w : World) (hr : Kd.C k77 w A L.length L) (hc : L.length ≤ c) :
  Calls Try.prog 55 #[.slice A L.length c, .int .i64 a] w fun e w' => ∃ v : Value, e = .returned (.tuple #[v, .int .i64 (ansTB L a).2.1, .bool (ansTB L a).2.2]) ∧ Kd.R k79 79 w' w.heap.size (fun _ => True) v (ansTB L a).1 ∧ Below w.heap.size w w' := by
 have HR := aM hr
 have HC := aM hc
 have HG := aM (RankG.calls A c L w hr hc)
 have HWI := aM (fun W (b : Bool) (hb : decide (0 ≤ a ∧ a ≤ 60) = b) => Rank.within_calls a 0 60 b W hb)
 by_cases hg : RankG.good L = true
 ·
  have HGF := aM (good_facts hg)
  rw [hg] at HG
  by_cases hk : 0 ≤ a ∧ a ≤ 60
  ·
   have hans : ansTB L a = ((ansT L a.toNat).1, (ansT L a.toNat).2, true) := by unfold ansTB; rw [if_pos ⟨hg, hk⟩]
   rw [hans]
   obtain ⟨n, rfl⟩ := Int.eq_ofNat_of_zero_le hk.1
   rw [Int.toNat_natCast]
   have HKD := aM (show decide (0 ≤ (n : Int) ∧ (n : Int) ≤ 60) = true from decide_eq_true hk)
   have HN : Aside0 (n ≤ 60) := ⟨by omega⟩
   clear hr hc hg hk hans
   go_enter Try.func55, Try.ntmps55
   go_wp2_with (first | (go_at_call 58; go_loud ((with_reducible refine HG.out.mono ?_); rintro e w1 ⟨rfl, hb1⟩; have HB1 := aM hb1; clear hb1)) | (go_at_call 88; go_loud ((with_reducible refine (HWI.out _ true HKD.out).mono ?_); rintro e w2 ⟨rfl, hb2⟩; have HB2 := aM (below_step HB1.out hb2); clear hb2)) | (go_at_call 107; go_loud ((with_reducible refine (topBest_calls L A c n _ (Kd.C_below HR.out HB2.out) HC.out HGF.out.1 HGF.out.2 HN.out).mono ?_); rintro e w3 ⟨v3, rfl, ho3, hb3⟩; have HO3 := aM ho3; have HB3 := aM (below_step HB2.out hb3); clear ho3 hb3)))
   go_ret3
   exact ⟨_, rfl, Kd.R_lower HO3.out HB2.out.size, HB3.out⟩
  ·
   have hans : ansTB L a = ([], 0, false) := by unfold ansTB; rw [if_neg (fun h => hk h.2)]
   rw [hans]
   have HKD := aM (show decide (0 ≤ a ∧ a ≤ 60) = false from decide_eq_false hk)
   clear hr hc hg hk hans
   go_enter Try.func55, Try.ntmps55
   go_wp2_with (first | (go_at_call 58; go_loud ((with_reducible refine HG.out.mono ?_); rintro e w1 ⟨rfl, hb1⟩; have HB1 := aM hb1; clear hb1)) | (go_at_call 88; go_loud ((with_reducible refine (HWI.out _ false HKD.out).mono ?_); rintro e w2 ⟨rfl, hb2⟩; have HB2 := aM (below_step HB1.out hb2); clear hb2)))
   go_ret3
   exact ⟨_, rfl, Kd.R_nil _ _ _ _ _, HB2.out⟩
 ·
  have hans : ansTB L a = ([], 0, false) := by unfold ansTB; rw [if_neg (fun h => hg h.1)]
  rw [hans]
  rw [Bool.not_eq_true] at hg
  rw [hg] at HG
  clear hr hc hg hans
  go_enter Try.func55, Try.ntmps55
  go_wp2_with (go_at_call 58; go_loud ((with_reducible refine HG.out.mono ?_); rintro e w1 ⟨rfl, hb1⟩; have HB1 := aM hb1; clear hb1))
  go_ret3
  exact ⟨_, rfl, Kd.R_nil _ _ _ _ _, HB1.out⟩
end Go.Proofs.Ytaomjndfjmfelaa.TopB
end

section
namespace Go.Proofs.Ytaomjndfjmfelaa.LwTB
set_option linter.unusedVariables false
set_option linter.unusedSimpArgs false
open Go.RowKit Go.Proofs.Ytaomjndfjmfelaa.PQ Go.Proofs.YtaomjndfjmfelaaW.PrintWords Go.Proofs.YtaomjndfjmfelaaW.PrintLast Go.Proofs.YtaomjndfjmfelaaW.PrintMore Go.Proofs.Ytaomjndfjmfelaa.Pre Go.Proofs.Ytaomjndfjmfelaa.Shp Go.Proofs.Ytaomjndfjmfelaa.LwK
theorem reads_q {W : World} {base : Nat} {ok : Nat → Prop} {Ag : Option Addr} {n cg : Nat} {q : List SoB.Sc1} (h : Kd.R k79 79 W base ok (.slice Ag n cg) q) : n = q.length ∧ Kd.C k79 W Ag q.length q := ⟨(Kd.R_reads' h).1, (Kd.R_reads' h).2.2⟩
set_option maxRecDepth 100000 in
set_option maxHeartbeats 8000000 in
theorem calls (A : Option Addr) (c : Nat) (l : List RankT.Rl) (a : Int) (w : World) (hr : Kd.C k119 w A l.length l) (hc : l.length ≤ c) (hw : l.length ≤ 9223372036854775807 ∧ ∀ x ∈ l, x.f0.length ≤ 9223372036854775807) :
  Calls Try.prog 9 #[.slice A l.length c, .int .i64 a] w fun e w' => e = .returned (.bool true) ∧ Below w.heap.size w w' := by
 have HR := aM hr
 have HC := aM hc
 obtain ⟨r, hev, hsm⟩ := RankT.sz_ev l hw.1 hw.2
 obtain ⟨k0, hk0⟩ := hev.ex
 have E0 := aM hk0
 by_cases hneg : r < 0
 ·
  have hnb : decide (r < 0) = true := decide_eq_true hneg
  clear hr hc hw hsm hk0 hev
  go_enter Try.func9, Try.ntmps9
  go_wp2_with (first | (go_at_call 45; go_loud ((with_reducible refine (laws_szRankingS.calls k0 A c l 1048576 r _ HR.out HC.out E0.out).mono ?_); rintro e w1 ⟨rfl, hb⟩; have HA1 := aM hb; clear hb)))
  go_ret
  exact ⟨rfl, HA1.out⟩
 ·
  have hnb : decide (r < 0) = false := decide_eq_false hneg
  have hs := hsm (by omega)
  have hsl := RankT.map_small l hs.1 hs.2
  obtain ⟨k1, hk1⟩ := (RankT.toR_ev l hs.1 hs.2).ex
  obtain ⟨lR, hlR⟩ : ∃ lR, lR = l.map RankT.cvR := ⟨_, rfl⟩
  rw [← hlR] at hsl hk1
  obtain ⟨k2, hk2⟩ := (TopB.topBestS_ev lR hsl.1 hsl.2 a).ex
  have hpl : (TopB.ansTB lR a).1.length ≤ 1048576 := TopB.ansTB_len lR a
  obtain ⟨p, hp⟩ : ∃ p, p = (TopB.ansTB lR a).1 := ⟨_, rfl⟩
  obtain ⟨d, hd⟩ : ∃ d, d = (TopB.ansTB lR a).2.1 := ⟨_, rfl⟩
  obtain ⟨b, hb⟩ : ∃ b, b = (TopB.ansTB lR a).2.2 := ⟨_, rfl⟩
  have hpb : TopB.ansTB lR a = (p, d, b) := by rw [hp, hd, hb]
  have hk2 : spec_TopBest.f k2 lR a = some (p, d, b) := hk2.trans (by rw [hpb])
  rw [← hp] at hpl
  obtain ⟨k3, hk3⟩ := (RankT.eqC_ev p p hpl rfl).ex
  obtain ⟨k4, hk4⟩ := (RankT.eqR_ev lR hsl.1 hsl.2).ex
  obtain ⟨k5, hk5⟩ := (SoB.mark_evC p 1 (by omega) hpl).ex
  obtain ⟨k6, hk6⟩ := (SoB.held_evC p.length 1 (by omega) hpl).ex
  obtain ⟨q, hq⟩ : ∃ q, q = SoB.mkC p.length 1 := ⟨_, rfl⟩
  have hql : q.length = p.length := by rw [hq, SoB.mkC_len]
  obtain ⟨z, hz⟩ : ∃ z : Int, z = ((1 + 2 * p.length : Nat) : Int) := ⟨_, rfl⟩
  rw [← hq, ← hz, show ((1 : Nat) : Int) = 1 from rfl] at hk5 hk6
  have hzb : decide (z < 0) = false := decide_eq_false (by omega)
  have E1 := aM hk1
  have E2 := aM hk2
  have E3 := aM hk3
  have E4 := aM hk4
  have E5 := aM hk5
  have E6 := aM hk6
  have EP := aM hpb
  have ESL := aM hsl.1
  have ESX := aM hsl.2
  have EQ := aM hql
  clear hr hc hw hsm hk0 hev hneg hs hsl hlR hk1 hk2 hpl hp hd hb hpb hk3 hk4 hk5 hk6 hq hql hz
  go_enter Try.func9, Try.ntmps9
  go_upto_region 6 with (first | (go_at_call 45; go_loud ((with_reducible refine (laws_szRankingS.calls k0 A c l 1048576 r _ HR.out HC.out E0.out).mono ?_); rintro e w1 ⟨rfl, hb⟩; have HA1 := aM hb; clear hb)) | (go_at_call 47; go_loud ((with_reducible refine (laws_toRankingS.calls k1 A c l lR _ (Kd.C_below HR.out HA1.out) HC.out E1.out).mono ?_); rintro e w2 ⟨v2, rfl, ho, hb⟩; have HA2 := aM (below_step HA1.out hb); clear HA1; obtain ⟨A2, c2, rfl, hl2, hC2⟩ := Kd.S_reads ho; have HC2 := aM hC2; have HL2 := aM hl2; clear ho hb hC2 hl2)) | (go_at_call 54; go_loud ((with_reducible refine (spec_TopBest.calls k2 A2 c2 lR a p d b _ HC2.out HL2.out E2.out).mono ?_); rintro e w3 ⟨v3, rfl, ho, hb⟩; have HA3 := aM (below_step HA2.out hb); clear HA2; obtain ⟨As, cs, rfl, hls, hCs⟩ := Kd.R_reads ho; have HCS := aM hCs; have HLS := aM hls; clear ho hb hCs hls)))
  go_upto_region 10 with (first | (go_at_call 47; go_loud ((with_reducible refine (laws_toRankingS.calls k1 A c l lR _ (Kd.C_below HR.out HA3.out) HC.out E1.out).mono ?_); rintro e w4 ⟨v4, rfl, ho, hb⟩; have HA4 := aM (below_step HA3.out hb); have HS4 := aM hb; obtain ⟨Ax, cx, rfl, hlx, hCx⟩ := Kd.S_reads ho; have HLX := aM hlx; have HX4 := aM (R_in (Kd.S_R ho)); clear ho hb hCx hlx)) | (go_at_call 55; go_loud (have hcal := TopB.topBestI lR Ax cx a w4 (Kd.R_reads' HX4.out).2.2 HLX.out; rw [EP.out] at hcal; (with_reducible refine (hcal).mono ?_); rintro e w5 ⟨vg, rfl, ho, hb⟩; have HG5 := aM (R_in ho); have HA5 := aM (below_step HA4.out hb); have HS5 := aM (below_step HS4.out hb); have HX5 := aM (Kd.R_below HX4.out hb); obtain ⟨Ag, cg, rfl, hlg, hCg⟩ := Kd.R_reads ho; have HLG := aM hlg; clear ho hb hCg hlg hcal)) | (go_at_call 49; go_loud ((with_reducible refine (laws_eqScoredS.calls k3 Ag cg p As cs p true _ (Kd.R_reads' HG5.out).2.2 HLG.out (Kd.C_below HCS.out HS5.out) HLS.out E3.out).mono ?_); rintro e w6 ⟨rfl, hb⟩; have HA6 := aM (below_step HA5.out hb); have HS6 := aM (below_step HS5.out hb); have HX6 := aM (Kd.R_below HX5.out hb); have HG6 := aM (Kd.R_below HG5.out hb); clear HA5 HS5 HX5 HG5; clear hb)))
  go_upto_region 14 with (first | (go_at_call 47; go_loud ((with_reducible refine (laws_toRankingS.calls k1 A c l lR _ (Kd.C_below HR.out HA6.out) HC.out E1.out).mono ?_); rintro e w7 ⟨v7, rfl, ho, hb⟩; have HA7 := aM (below_step HA6.out hb); have HS7 := aM (below_step HS6.out hb); have HX7 := aM (Kd.R_below HX6.out hb); have HG7 := aM (Kd.R_below HG6.out hb); clear HA6 HS6 HX6 HG6; obtain ⟨A7, c7, rfl, hl7, hC7⟩ := Kd.S_reads ho; have HC7 := aM hC7; have HL7 := aM hl7; clear ho hb hC7 hl7)) | (go_at_call 50; go_loud ((with_reducible refine (laws_eqRankingS.calls k4 Ax cx lR A7 c7 lR true _ (Kd.R_reads' HX7.out).2.2 HLX.out HC7.out HL7.out E4.out).mono ?_); rintro e w8 ⟨rfl, hb⟩; have HA8 := aM (below_step HA7.out hb); have HS8 := aM (below_step HS7.out hb); have HX8 := aM (Kd.R_below HX7.out hb); have HG8 := aM (Kd.R_below HG7.out hb); clear HA7 HS7 HX7 HG7; clear hb)) | (go_at_call 51; go_loud (have hcal := MkR.mkR_calls w3.heap.size _ (.slice Ax lR.length cx) lR 1 w8 HX8.out ESL.out ESX.out (by decide); rw [show ((1 : Nat) : Int) = 1 from rfl] at hcal; (with_reducible refine (hcal).mono ?_); rintro e w9 ⟨⟨r9, hr0, hr1, rfl⟩, hm⟩; have HA9 := aM (hm.under HA8.out (below_size HA8.out) (fun k hk => Nat.le_trans (below_size HA3.out) hk.1)); have HS9 := aM (hm.under HS8.out (below_size HS8.out) (fun k hk => hk.1)); have HG9 := aM (Kd.R_kept HG8.out hm.2.1 (fun k hk hs => Nat.lt_irrefl _ (Nat.lt_of_lt_of_le hs.2 hk.1))); have hr9b : decide (r9 < 0) = false := decide_eq_false (by omega); clear hm hr0 hr1 hcal HX8 HA8 HS8 HG8)))
  go_upto_region 24 with (first | (go_at_call 49; go_loud ((with_reducible refine (laws_eqScoredS.calls k3 Ag cg p As cs p true _ (Kd.R_reads' HG9.out).2.2 HLG.out (Kd.C_below HCS.out HS9.out) HLS.out E3.out).mono ?_); rintro e w10 ⟨rfl, hb⟩; have HA10 := aM (below_step HA9.out hb); have HS10 := aM (below_step HS9.out hb); have HG10 := aM (Kd.R_below HG9.out hb); clear HA9 HS9 HG9; clear hb)) | (go_at_call 52; go_loud ((with_reducible refine (laws_markScoredS.calls k5 (fun k_ => some k_ = (Value.slice Ag p.length cg).ownBlock) (.slice Ag p.length cg) p 1 z q w _ HA10.out (Kd.R_tight rfl (Kd.R_lower HG10.out (below_size HA4.out))) E5.out).mono ?_); rintro e w11 ⟨rfl, hy, hb, hkp⟩; have HA11 := aM (under2 HA10.out (below_size HA10.out) hkp HA10.out hb (fun k hk => Nat.le_trans (below_size HA4.out) (HG10.out.1 k hk.symm).1)); have HS11 := aM (under2 HS10.out (below_size HS10.out) hkp HA10.out hb (fun k hk => Nat.le_trans (below_size HS4.out) (HG10.out.1 k hk.symm).1)); have HQ11 := aM (Kd.R_mono (ok' := fun _ => True) hy (fun _ _ => trivial)); clear hy hb hkp HA10 HS10 HG10)) | (go_at_call 53; go_loud (have hcal := laws_heldScoredS.calls k6 Ag cg q 1 z w11 (reads_q HQ11.out).2 (by rw [EQ.out]; exact HLG.out) E6.out; rw [EQ.out] at hcal; (with_reducible refine (hcal).mono ?_); rintro e w12 ⟨rfl, hd⟩; have HA12 := aM (below_step HA11.out hd.below); have HS12 := aM (below_step HS11.out hd.below); have HQ12 := aM (Kd.R_below HQ11.out hd.below); clear HA11 HS11 HQ11; clear hd hcal)))
  go_wp2_with (first | (go_at_call 47; go_loud ((with_reducible refine (laws_toRankingS.calls k1 A c l lR _ (Kd.C_below HR.out HA12.out) HC.out E1.out).mono ?_); rintro e w13 ⟨v13, rfl, ho, hb⟩; have HA13 := aM (below_step HA12.out hb); have HS13 := aM (below_step HS12.out hb); have HQ13 := aM (Kd.R_below HQ12.out hb); clear HA12 HS12 HQ12; obtain ⟨A13, c13, rfl, hl13, hC13⟩ := Kd.S_reads ho; have HC13 := aM hC13; have HL13 := aM hl13; clear ho hb hC13 hl13)) | (go_at_call 55; go_loud (have hcal := TopB.topBestI lR A13 c13 a w13 HC13.out HL13.out; rw [EP.out] at hcal; (with_reducible refine (hcal).mono ?_); rintro e w14 ⟨vh, rfl, ho, hb⟩; have HA14 := aM (below_step HA13.out hb); have HS14 := aM (below_step HS13.out hb); have HQ14 := aM (Kd.R_below HQ13.out hb); clear HA13 HS13 HQ13; obtain ⟨Ah, ch, rfl, hlh, hCh⟩ := Kd.R_reads ho; have HCH := aM hCh; have HLH := aM hlh; clear ho hb hCh hlh hcal)) | (go_at_call 49; go_loud ((with_reducible refine (laws_eqScoredS.calls k3 Ah ch p As cs p true _ HCH.out HLH.out (Kd.C_below HCS.out HS14.out) HLS.out E3.out).mono ?_); rintro e w15 ⟨rfl, hb⟩; have HA15 := aM (below_step HA14.out hb); have HS15 := aM (below_step HS14.out hb); have HQ15 := aM (Kd.R_below HQ14.out hb); clear HA14 HS14 HQ14; clear hb)) | (go_at_call 53; go_loud (have hcal := laws_heldScoredS.calls k6 Ag cg q 1 z w15 (reads_q HQ15.out).2 (by rw [EQ.out]; exact HLG.out) E6.out; rw [EQ.out] at hcal; (with_reducible refine (hcal).mono ?_); rintro e w16 ⟨rfl, hd⟩; have HA16 := aM (below_step HA15.out hd.below); have HS16 := aM (below_step HS15.out hd.below); have HQ16 := aM (Kd.R_below HQ15.out hd.below); clear HA15 HS15 HQ15; clear hd hcal)))
  go_ret
  exact ⟨rfl, HA16.out⟩
end Go.Proofs.Ytaomjndfjmfelaa.LwTB
end

section
namespace Go.Proofs.Ytaomjndfjmfelaa.PQ
open Go.RowKit Go.Proofs.YtaomjndfjmfelaaW.PrintWords Go.Proofs.YtaomjndfjmfelaaW.PrintLast Go.Proofs.YtaomjndfjmfelaaW.PrintMore
attribute [local go_sem] max2_int min2_int max_two min_two max_three min_three max_four min_four
set_option linter.unusedVariables false
set_option linter.unusedSimpArgs false
def laws_FnExactTopBest.Pure : Prop := True
theorem laws_FnExactTopBest.walk (P : laws_FnExactTopBest.Pure) (A0 : Option Addr) (c0 : Nat) (l0 : List (S119)) (a1 : Int) (w : World) (hr0 : Kd.C k119 w A0 l0.length l0) (hc0 : l0.length ≤ c0) (w0 : (l0.length ≤ maxLen ∧ ∀ x_ ∈ l0, (x_.f0.length ≤ maxLen ∧ ∀ xx_ ∈ x_.f0, ((Lit.int .i64 xx_.f0).wf = true ∧ (Lit.int .i64 xx_.f1).wf = true)))) (w1 : (Lit.int .i64 a1).wf = true) :
  Calls Try.prog 9 #[.slice A0 l0.length c0, .int .i64 a1] w fun e w' => e = .returned (.bool true) ∧ Below w.heap.size w w' :=
 LwTB.calls A0 c0 l0 a1 w hr0 hc0 ⟨w0.1, fun x hx => (w0.2 x hx).1⟩

end Go.Proofs.Ytaomjndfjmfelaa.PQ
end

section
namespace Go.Proofs.Ytaomjndfjmfelaa.Pure
open Go.Proofs.Ytaomjndfjmfelaa.PQ
theorem FnExactTopBest : laws_FnExactTopBest.Pure := trivial
end Go.Proofs.Ytaomjndfjmfelaa.Pure
end

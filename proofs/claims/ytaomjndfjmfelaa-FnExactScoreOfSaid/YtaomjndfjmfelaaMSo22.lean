/- Several texts in one: what the claim's last text rests on. No conditions. -/
import Derived.Test.YtaomjndfjmfelaaMSo19
import Derived.Test.YtaomjndfjmfelaaMSo16
import Derived.Test.YtaomjndfjmfelaaMSo7
import Derived.Test.YtaomjndfjmfelaaMSo8
section
namespace Go.Proofs.Ytaomjndfjmfelaa.SoB
set_option linter.unusedVariables false
set_option linter.unusedSimpArgs false
open Go.RowKit Go.Shelf Go.Lib Go.Sort Go.Proofs.Ytaomjndfjmfelaa.PQ Go.Proofs.YtaomjndfjmfelaaW.PrintWords Go.Proofs.YtaomjndfjmfelaaW.PrintLast Go.Proofs.YtaomjndfjmfelaaW.PrintMore Go.Proofs.Ytaomjndfjmfelaa.Pre
abbrev Rk := S77
theorem take_last {α : Type} (l : List α) (i : Nat) (h : i < l.length) : l.take (i + 1) = l.take i ++ [l[i]] := List.take_succ_eq_append_getElem h
end Go.Proofs.Ytaomjndfjmfelaa.SoB
end

section
namespace Go.Proofs.Ytaomjndfjmfelaa.SoB
set_option linter.unusedVariables false
set_option linter.unusedSimpArgs false
open Go.RowKit Go.Sort Go.Proofs.Ytaomjndfjmfelaa.PQ Go.Proofs.YtaomjndfjmfelaaW.PrintWords Go.Proofs.YtaomjndfjmfelaaW.PrintLast Go.Proofs.Ytaomjndfjmfelaa.Pre
theorem le_ahead (x y : Sc) : le x y = !(Rank.ahead y x) := by
 unfold le Rank.ahead
 rw [lt_bf]
 congr 1
 exact decide_eq_decide.2 (by omega)
theorem ah_iff (y x : Sc) : Rank.ahead y x = true ↔ (x.f1 < y.f1 ∨ (x.f1 = y.f1 ∧ y.f0 < x.f0)) := by
 unfold Rank.ahead
 exact decide_eq_true_iff
theorem le_iff (x y : Sc) : le x y = true ↔ ¬ (x.f1 < y.f1 ∨ (x.f1 = y.f1 ∧ y.f0 < x.f0)) := by
 rw [le_ahead, Bool.not_eq_true', ← Bool.not_eq_true, ah_iff]
theorem le_trans {x y z : Sc} (h1 : le x y = true) (h2 : le y z = true) : le x z = true := by
 rw [le_iff] at *
 omega
theorem le_total (x y : Sc) : (le x y || le y x) = true := by
 rw [Bool.or_eq_true, le_iff, le_iff]
 omega
theorem le_anti {x y : Sc} (h1 : le x y = true) (h2 : le y x = true) : x = y := by
 rw [le_iff] at *
 have e1 : x.f1 = y.f1 := by omega
 have e0 : x.f0 = y.f0 := by omega
 cases x; cases y
 simp_all
/-- In order. -/
def Ord (l : List Sc) : Prop := l.Pairwise (fun a b => le a b = true)
theorem ord_sort (l : List Sc) : Ord (l.mergeSort le) := by
 have h := List.pairwise_mergeSort (le := le) (fun a b c h1 h2 => SoB.le_trans (x := a) (y := b) (z := c) h1 h2) (fun a b => SoB.le_total a b) l
 exact h
theorem ord_uniq : ∀ {l m : List Sc}, l.Perm m → Ord l → Ord m → l = m
 | [], m, h, _, _ => (List.Perm.nil_eq h)
 | a :: l, [], h, _, _ => by have := h.length_eq; simp at this
 | a :: l, b :: m, h, h1, h2 => by
  have hab : a = b := by
   have ha : a ∈ b :: m := h.subset (List.mem_cons_self ..)
   have hb : b ∈ a :: l := h.symm.subset (List.mem_cons_self ..)
   rcases List.mem_cons.1 ha with e | ha
   ·
    exact e
   ·
    rcases List.mem_cons.1 hb with e | hb
    ·
     exact e.symm
    ·
     exact le_anti ((List.pairwise_cons.1 h1).1 b hb) ((List.pairwise_cons.1 h2).1 a ha)
  subst hab
  rw [ord_uniq ((List.perm_cons a).1 h) (List.pairwise_cons.1 h1).2 (List.pairwise_cons.1 h2).2]
/-- One put to its place. -/
def ins (l : List Sc) (s : Sc) : List Sc := l.takeWhile (fun y => Rank.ahead y s) ++ s :: l.dropWhile (fun y => Rank.ahead y s)
theorem ins_cons (a : Sc) (l : List Sc) (s : Sc) : ins (a :: l) s = if Rank.ahead a s = true then a :: ins l s else s :: a :: l := by
 unfold ins
 rw [List.takeWhile_cons, List.dropWhile_cons]
 split <;> rfl
theorem ins_perm (s : Sc) : ∀ l : List Sc, (ins l s).Perm (s :: l)
 | [] => List.Perm.refl _
 | a :: l => by
  rw [ins_cons]
  split
  ·
   exact ((ins_perm s l).cons a).trans (List.Perm.swap s a l)
  ·
   exact List.Perm.refl _
theorem ins_ord (s : Sc) : ∀ l : List Sc, Ord l → Ord (ins l s)
 | [], _ => List.pairwise_cons.2 ⟨fun _ h => (by cases h), List.Pairwise.nil⟩
 | a :: l, h => by
  obtain ⟨h1, h2⟩ := List.pairwise_cons.1 h
  rw [ins_cons]
  split
  ·
   rename_i ha
   refine List.pairwise_cons.2 ⟨fun x hx => ?_, ins_ord s l h2⟩
   rcases List.mem_cons.1 ((ins_perm s l).subset hx) with e | hx
   ·
    rw [e, le_iff]
    rw [ah_iff] at ha
    omega
   ·
    exact h1 x hx
  ·
   rename_i ha
   have hs : le s a = true := by rw [le_ahead]; simpa using ha
   refine List.pairwise_cons.2 ⟨fun x hx => ?_, h⟩
   rcases List.mem_cons.1 hx with e | hx
   ·
    rw [e]; exact hs
   ·
    exact le_trans hs (h1 x hx)
/-- One put, once. -/
def putS (l : List Sc) (s : Sc) : List Sc := if l.any (Meet.isId s.f0) = true then l else ins l s
theorem putS_sort (acc : List Sc) (s : Sc) : putS (acc.mergeSort le) s = (if acc.any (Meet.isId s.f0) = true then acc else acc ++ [s]).mergeSort le := by
 have hp := List.mergeSort_perm acc le
 have ha : (acc.mergeSort le).any (Meet.isId s.f0) = acc.any (Meet.isId s.f0) := by
  rw [Bool.eq_iff_iff, List.any_eq_true, List.any_eq_true]
  constructor
  ·
   rintro ⟨x, hx, h⟩; exact ⟨x, hp.subset hx, h⟩
  ·
   rintro ⟨x, hx, h⟩; exact ⟨x, hp.symm.subset hx, h⟩
 unfold putS
 rw [ha]
 split
 ·
  rfl
 ·
  refine ord_uniq ?_ (ins_ord s _ (ord_sort acc)) (ord_sort _)
  exact ((ins_perm s _).trans (hp.cons s)).trans (((List.perm_append_singleton s acc).symm).trans (List.mergeSort_perm _ le).symm)
theorem ins_at (s : Sc) : ∀ (l : List Sc) (i : Nat), i ≤ l.length → (∀ (j : Nat) (h : j < l.length), j < i → Rank.ahead l[j] s = true) → (∀ h : i < l.length, Rank.ahead l[i] s = false) → ins l s = l.take i ++ s :: l.drop i
 | [], i, hi, _, _ => by
  have : i = 0 := by simpa using hi
  subst this
  rfl
 | a :: l, 0, hi, _, h2 => by
  have := h2 (by simp)
  rw [ins_cons, if_neg (by rw [show Rank.ahead a s = false from this]; decide)]
  rfl
 | a :: l, i + 1, hi, h1, h2 => by
  have h0 : Rank.ahead a s = true := h1 0 (by simp) (by omega)
  rw [ins_cons, if_pos h0, ins_at s l i (by simpa using hi) (fun j h hj => h1 (j + 1) (by simpa using h) (by omega)) (fun h => h2 (by simpa using h))]
  rfl
theorem put_ev (l : List Sc) (hl : l.length ≤ 1048576) (id sc : Int) : Evt (fun k => spec_l11Put.f k l id sc) (putS l ⟨id, sc⟩) := by
 unfold spec_l11Put.f putS
 have find : ∀ (m i : Nat), i + m = l.length → (∀ (j : Nat) (h : j < l.length), j < i → Rank.ahead l[j] ⟨id, sc⟩ = true) → Evt (fun k => spec_l11Put.l1 k l (i : Int) id sc) (ins l ⟨id, sc⟩) := by
  intro m
  induction m with
  | zero =>
   intro i hi hj
   have e := ins_at ⟨id, sc⟩ l i (by omega) hj (fun h => by omega)
   refine Evt.step (fun k => spec_l11Put.l1.eq_2 _ _ _ _ k) (Evt.neg (by omega) (Evt.pos (by omega) (Evt.pos (by omega) (Evt.bsome (Evt.pos (by simp; omega) (Evt.bsome (Evt.pos (by simp; omega) (Evt.bsome (Evt.bsome (Evt.pos (by simp; omega) ((Evt.const _).eq ?_)))))))))))
   rw [e, Int.toNat_natCast]
   simp
  | succ m ih =>
   intro i hi hj
   have hil : i < l.length := by omega
   refine Evt.step (fun k => spec_l11Put.l1.eq_2 _ _ _ _ k) (Evt.pos (by omega) (Evt.pos (by omega) ?_))
   rw [RankP.rd_at l i hil, show spec_l11Less.f l[i].f0 l[i].f1 id sc = some (Rank.ahead l[i] ⟨id, sc⟩) from RankP.less_ev l[i] ⟨id, sc⟩]
   refine Evt.bsome ?_
   cases ha : Rank.ahead l[i] ⟨id, sc⟩ with
   | true =>
    refine Evt.pos rfl ?_
    rw [w64 (n := (i : Int) + 1) (by omega) (by omega), show (i : Int) + 1 = ((i + 1 : Nat) : Int) by omega]
    refine ih (i + 1) (by omega) (fun j h hji => ?_)
    rcases Nat.lt_or_ge j i with h3 | h3
    ·
     exact hj j h h3
    ·
     obtain rfl : j = i := by omega
     exact ha
   | false =>
    have e := ins_at ⟨id, sc⟩ l i (by omega) hj (fun _ => ha)
    refine Evt.neg (by decide) (Evt.pos (by omega) (Evt.bsome (Evt.pos (by simp; omega) (Evt.bsome (Evt.pos (by simp; omega) (Evt.bsome (Evt.bsome (Evt.pos (by simp; omega) ((Evt.const _).eq ?_)))))))))
    rw [e, Int.toNat_natCast]
    simp
 have key : ∀ (m i : Nat), i + m = l.length → (l.take i).any (Meet.isId id) = false → Evt (fun k => spec_l11Put.l0 k l l (l.length : Int) (i : Int) id sc) (if l.any (Meet.isId id) = true then l else ins l ⟨id, sc⟩) := by
  intro m
  induction m with
  | zero =>
   intro i hi ha
   rw [List.take_of_length_le (by omega)] at ha
   rw [if_neg (by rw [ha]; decide)]
   exact Evt.step (fun k => spec_l11Put.l0.eq_2 _ _ _ _ _ _ k) (Evt.neg (by omega) (find l.length 0 (by omega) (fun j h hj => absurd hj (Nat.not_lt_zero _))))
  | succ m ih =>
   intro i hi ha
   have hil : i < l.length := by omega
   refine Evt.step (fun k => spec_l11Put.l0.eq_2 _ _ _ _ _ _ k) (Evt.pos (by omega) (Evt.pos (by omega) (Evt.pos (by omega) ?_)))
   rw [RankP.rd_at l i hil]
   by_cases he : l[i].f0 = id
   ·
    refine Evt.pos he ((Evt.const _).eq ?_)
    rw [if_pos]
    rw [List.any_eq_true]
    exact ⟨l[i], List.getElem_mem hil, by unfold Meet.isId; rw [he]; exact beq_self_eq_true _⟩
   ·
    refine Evt.neg he ?_
    rw [w64 (n := (i : Int) + 1) (by omega) (by omega), show (i : Int) + 1 = ((i + 1 : Nat) : Int) by omega]
    refine ih (i + 1) (by omega) ?_
    rw [take_last l i hil, List.any_append, ha, Bool.false_or]
    simp [Meet.isId, he]
 exact key l.length 0 (by omega) rfl
end Go.Proofs.Ytaomjndfjmfelaa.SoB
end

section
namespace Go.Proofs.Ytaomjndfjmfelaa.TopB
set_option linter.unusedVariables false
set_option linter.unusedSimpArgs false
open Go.RowKit Go.Sort Go.Proofs.Ytaomjndfjmfelaa.PQ Go.Proofs.YtaomjndfjmfelaaW.PrintWords Go.Proofs.YtaomjndfjmfelaaW.PrintLast Go.Proofs.Ytaomjndfjmfelaa.Pre
abbrev Sc := SoB.Sc
abbrev Rk := SoB.Rk
theorem ord_falls {S : List Sc} (h : SoB.Ord S) : S.Pairwise (fun a b => b.f1 ≤ a.f1) := by
  refine List.Pairwise.imp (fun {a b} hab => ?_) h
  rw [SoB.le_iff] at hab
  omega
/-- A list of scores that fall, their ids unlike. -/
def Rank1 (l : List Sc) : Prop := l.Pairwise (fun a b => b.f1 ≤ a.f1 ∧ a.f0 ≠ b.f0) ∧ ∀ y ∈ l, 1 ≤ y.f1 ∧ y.f1 ≤ 1000000
def Ranks (L : List Rk) : Prop := L.length ≤ 5 ∧ ∀ x ∈ L, x.f0.length ≤ 60 ∧ Rank1 x.f0
end Go.Proofs.Ytaomjndfjmfelaa.TopB
end

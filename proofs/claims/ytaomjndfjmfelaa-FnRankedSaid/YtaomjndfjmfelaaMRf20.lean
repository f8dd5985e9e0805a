/- Several texts in one: what the claim's last text rests on. No conditions. -/
import Derived.Test.YtaomjndfjmfelaaMRf17
import Derived.Test.YtaomjndfjmfelaaMRf14
import Derived.Test.YtaomjndfjmfelaaMRf7
import Derived.Test.YtaomjndfjmfelaaMRf6
section
namespace Go.Proofs.Ytaomjndfjmfelaa.SoB
set_option linter.unusedVariables false
set_option linter.unusedSimpArgs false
open Go.RowKit Go.Shelf Go.Lib Go.Sort Go.Proofs.Ytaomjndfjmfelaa.PQ Go.Proofs.YtaomjndfjmfelaaW.PrintWords Go.Proofs.YtaomjndfjmfelaaW.PrintLast Go.Proofs.YtaomjndfjmfelaaW.PrintMore Go.Proofs.Ytaomjndfjmfelaa.Pre
abbrev Rk := S77
/-- Those met in one list, in all of them. -/
def metR (L : List Rk) (l : List Sc) (acc : List Sc) : List Sc := l.foldl (fun a s => Meet.met L s.f0 a) acc
def metA (L : List Rk) (l : List Rk) (acc : List Sc) : List Sc := l.foldl (fun a r => metR L r.f0 a) acc
theorem met_len (L : List Rk) (id : Int) (acc : List Sc) : (Meet.met L id acc).length ≤ acc.length + 1 := by
  unfold Meet.met
  split
  · omega
  · simp
theorem take_last {α : Type} (l : List α) (i : Nat) (h : i < l.length) : l.take (i + 1) = l.take i ++ [l[i]] := List.take_succ_eq_append_getElem h
theorem good_facts {L : List Rk} (h : RankG.good L = true) : L.length ≤ 5 ∧ ∀ x ∈ L, x.f0.length ≤ 60 := by
  unfold RankG.good at h
  rw [Bool.and_eq_true, decide_eq_true_eq] at h
  refine ⟨h.1, fun x hx => ?_⟩
  have h2 := h.2
  rw [Bool.not_eq_true', List.any_eq_false] at h2
  have h3 := h2 x hx
  unfold RankG.bad Rank.rankOK at h3
  simp only [Bool.not_eq_true', Bool.not_eq_false', Bool.and_eq_true, decide_eq_true_eq, Bool.not_eq_true, Bool.not_eq_false] at h3
  exact h3.1
end Go.Proofs.Ytaomjndfjmfelaa.SoB
end

section
namespace Go.Proofs.Ytaomjndfjmfelaa.SoB
set_option linter.unusedVariables false
set_option linter.unusedSimpArgs false
open Go.RowKit Go.Sort Go.Proofs.Ytaomjndfjmfelaa.PQ Go.Proofs.YtaomjndfjmfelaaW.PrintWords Go.Proofs.YtaomjndfjmfelaaW.PrintLast Go.Proofs.Ytaomjndfjmfelaa.Pre
theorem le_ahead (x y : Sc) : le x y = !(Rank.ahead y x) := by
 unfold le Rank.ahead
 rw [lt_bf]
 congr 1
 exact decide_eq_decide.2 (by omega)
theorem ah_iff (y x : Sc) : Rank.ahead y x = true ↔ (x.f1 < y.f1 ∨ (x.f1 = y.f1 ∧ y.f0 < x.f0)) := by
 unfold Rank.ahead
 exact decide_eq_true_iff
theorem le_iff (x y : Sc) : le x y = true ↔ ¬ (x.f1 < y.f1 ∨ (x.f1 = y.f1 ∧ y.f0 < x.f0)) := by
 rw [le_ahead, Bool.not_eq_true', ← Bool.not_eq_true, ah_iff]
theorem le_trans {x y z : Sc} (h1 : le x y = true) (h2 : le y z = true) : le x z = true := by
 rw [le_iff] at *
 omega
theorem le_total (x y : Sc) : (le x y || le y x) = true := by
 rw [Bool.or_eq_true, le_iff, le_iff]
 omega
theorem le_anti {x y : Sc} (h1 : le x y = true) (h2 : le y x = true) : x = y := by
 rw [le_iff] at *
 have e1 : x.f1 = y.f1 := by omega
 have e0 : x.f0 = y.f0 := by omega
 cases x; cases y
 simp_all
/-- In order. -/
def Ord (l : List Sc) : Prop := l.Pairwise (fun a b => le a b = true)
theorem ord_sort (l : List Sc) : Ord (l.mergeSort le) := by
 have h := List.pairwise_mergeSort (le := le) (fun a b c h1 h2 => SoB.le_trans (x := a) (y := b) (z := c) h1 h2) (fun a b => SoB.le_total a b) l
 exact h
theorem ord_uniq : ∀ {l m : List Sc}, l.Perm m → Ord l → Ord m → l = m
 | [], m, h, _, _ => (List.Perm.nil_eq h)
 | a :: l, [], h, _, _ => by have := h.length_eq; simp at this
 | a :: l, b :: m, h, h1, h2 => by
  have hab : a = b := by
   have ha : a ∈ b :: m := h.subset (List.mem_cons_self ..)
   have hb : b ∈ a :: l := h.symm.subset (List.mem_cons_self ..)
   rcases List.mem_cons.1 ha with e | ha
   ·exact e
   ·rcases List.mem_cons.1 hb with e | hb
    ·exact e.symm
    ·exact le_anti ((List.pairwise_cons.1 h1).1 b hb) ((List.pairwise_cons.1 h2).1 a ha)
  subst hab
  rw [ord_uniq ((List.perm_cons a).1 h) (List.pairwise_cons.1 h1).2 (List.pairwise_cons.1 h2).2]
/-- One put to its place. -/
def ins (l : List Sc) (s : Sc) : List Sc := l.takeWhile (fun y => Rank.ahead y s) ++ s :: l.dropWhile (fun y => Rank.ahead y s)
theorem ins_cons (a : Sc) (l : List Sc) (s : Sc) : ins (a :: l) s = if Rank.ahead a s = true then a :: ins l s else s :: a :: l := by
 unfold ins
 rw [List.takeWhile_cons, List.dropWhile_cons]
 split <;> rfl
theorem ins_perm (s : Sc) : ∀ l : List Sc, (ins l s).Perm (s :: l)
 | [] => List.Perm.refl _
 | a :: l => by
  rw [ins_cons]
  split
  ·exact ((ins_perm s l).cons a).trans (List.Perm.swap s a l)
  ·exact List.Perm.refl _
theorem ins_ord (s : Sc) : ∀ l : List Sc, Ord l → Ord (ins l s)
 | [], _ => List.pairwise_cons.2 ⟨fun _ h => (by cases h), List.Pairwise.nil⟩
 | a :: l, h => by
  obtain ⟨h1, h2⟩ := List.pairwise_cons.1 h
  rw [ins_cons]
  split
  ·rename_i ha
   refine List.pairwise_cons.2 ⟨fun x hx => ?_, ins_ord s l h2⟩
   rcases List.mem_cons.1 ((ins_perm s l).subset hx) with e | hx
   ·rw [e, le_iff]
    rw [ah_iff] at ha
    omega
   ·exact h1 x hx
  ·rename_i ha
   have hs : le s a = true := by rw [le_ahead]; simpa using ha
   refine List.pairwise_cons.2 ⟨fun x hx => ?_, h⟩
   rcases List.mem_cons.1 hx with e | hx
   ·rw [e]; exact hs
   ·exact le_trans hs (h1 x hx)
/-- One put, once. -/
def putS (l : List Sc) (s : Sc) : List Sc := if l.any (Meet.isId s.f0) = true then l else ins l s
theorem putS_sort (acc : List Sc) (s : Sc) : putS (acc.mergeSort le) s = (if acc.any (Meet.isId s.f0) = true then acc else acc ++ [s]).mergeSort le := by
 have hp := List.mergeSort_perm acc le
 have ha : (acc.mergeSort le).any (Meet.isId s.f0) = acc.any (Meet.isId s.f0) := by
  rw [Bool.eq_iff_iff, List.any_eq_true, List.any_eq_true]
  constructor
  ·rintro ⟨x, hx, h⟩; exact ⟨x, hp.subset hx, h⟩
  ·rintro ⟨x, hx, h⟩; exact ⟨x, hp.symm.subset hx, h⟩
 unfold putS
 rw [ha]
 split
 ·rfl
 ·refine ord_uniq ?_ (ins_ord s _ (ord_sort acc)) (ord_sort _)
  exact ((ins_perm s _).trans (hp.cons s)).trans (((List.perm_append_singleton s acc).symm).trans (List.mergeSort_perm _ le).symm)
theorem met_sort (L : List Rk) (id : Int) (acc : List Sc) : (Meet.met L id acc).mergeSort le = putS (acc.mergeSort le) ⟨id, RankS.sumR id L⟩ := by
 rw [putS_sort]
 rfl
theorem ins_at (s : Sc) : ∀ (l : List Sc) (i : Nat), i ≤ l.length → (∀ (j : Nat) (h : j < l.length), j < i → Rank.ahead l[j] s = true) → (∀ h : i < l.length, Rank.ahead l[i] s = false) → ins l s = l.take i ++ s :: l.drop i
 | [], i, hi, _, _ => by
  have : i = 0 := by simpa using hi
  subst this
  rfl
 | a :: l, 0, hi, _, h2 => by
  have := h2 (by simp)
  rw [ins_cons, if_neg (by rw [show Rank.ahead a s = false from this]; decide)]
  rfl
 | a :: l, i + 1, hi, h1, h2 => by
  have h0 : Rank.ahead a s = true := h1 0 (by simp) (by omega)
  rw [ins_cons, if_pos h0, ins_at s l i (by simpa using hi) (fun j h hj => h1 (j + 1) (by simpa using h) (by omega)) (fun h => h2 (by simpa using h))]
  rfl
theorem put_ev (l : List Sc) (hl : l.length ≤ 1048576) (id sc : Int) : Evt (fun k => spec_l11Put.f k l id sc) (putS l ⟨id, sc⟩) := by
 unfold spec_l11Put.f putS
 have find : ∀ (m i : Nat), i + m = l.length → (∀ (j : Nat) (h : j < l.length), j < i → Rank.ahead l[j] ⟨id, sc⟩ = true) → Evt (fun k => spec_l11Put.l1 k l (i : Int) id sc) (ins l ⟨id, sc⟩) := by
  intro m
  induction m with
  | zero =>
   intro i hi hj
   have e := ins_at ⟨id, sc⟩ l i (by omega) hj (fun h => by omega)
   refine Evt.step (fun k => spec_l11Put.l1.eq_2 _ _ _ _ k) (Evt.neg (by omega) (Evt.pos (by omega) (Evt.pos (by omega) (Evt.bsome (Evt.pos (by simp; omega) (Evt.bsome (Evt.pos (by simp; omega) (Evt.bsome (Evt.bsome (Evt.pos (by simp; omega) ((Evt.const _).eq ?_)))))))))))
   rw [e, Int.toNat_natCast]
   simp
  | succ m ih =>
   intro i hi hj
   have hil : i < l.length := by omega
   refine Evt.step (fun k => spec_l11Put.l1.eq_2 _ _ _ _ k) (Evt.pos (by omega) (Evt.pos (by omega) ?_))
   rw [RankP.rd_at l i hil, show spec_l11Less.f l[i].f0 l[i].f1 id sc = some (Rank.ahead l[i] ⟨id, sc⟩) from RankP.less_ev l[i] ⟨id, sc⟩]
   refine Evt.bsome ?_
   cases ha : Rank.ahead l[i] ⟨id, sc⟩ with
   | true =>
    refine Evt.pos rfl ?_
    rw [w64 (n := (i : Int) + 1) (by omega) (by omega), show (i : Int) + 1 = ((i + 1 : Nat) : Int) by omega]
    refine ih (i + 1) (by omega) (fun j h hji => ?_)
    rcases Nat.lt_or_ge j i with h3 | h3
    ·exact hj j h h3
    ·obtain rfl : j = i := by omega
     exact ha
   | false =>
    have e := ins_at ⟨id, sc⟩ l i (by omega) hj (fun _ => ha)
    refine Evt.neg (by decide) (Evt.pos (by omega) (Evt.bsome (Evt.pos (by simp; omega) (Evt.bsome (Evt.pos (by simp; omega) (Evt.bsome (Evt.bsome (Evt.pos (by simp; omega) ((Evt.const _).eq ?_)))))))))
    rw [e, Int.toNat_natCast]
    simp
 have key : ∀ (m i : Nat), i + m = l.length → (l.take i).any (Meet.isId id) = false → Evt (fun k => spec_l11Put.l0 k l l (l.length : Int) (i : Int) id sc) (if l.any (Meet.isId id) = true then l else ins l ⟨id, sc⟩) := by
  intro m
  induction m with
  | zero =>
   intro i hi ha
   rw [List.take_of_length_le (by omega)] at ha
   rw [if_neg (by rw [ha]; decide)]
   exact Evt.step (fun k => spec_l11Put.l0.eq_2 _ _ _ _ _ _ k) (Evt.neg (by omega) (find l.length 0 (by omega) (fun j h hj => absurd hj (Nat.not_lt_zero _))))
  | succ m ih =>
   intro i hi ha
   have hil : i < l.length := by omega
   refine Evt.step (fun k => spec_l11Put.l0.eq_2 _ _ _ _ _ _ k) (Evt.pos (by omega) (Evt.pos (by omega) (Evt.pos (by omega) ?_)))
   rw [RankP.rd_at l i hil]
   by_cases he : l[i].f0 = id
   ·refine Evt.pos he ((Evt.const _).eq ?_)
    rw [if_pos]
    rw [List.any_eq_true]
    exact ⟨l[i], List.getElem_mem hil, by unfold Meet.isId; rw [he]; exact beq_self_eq_true _⟩
   ·refine Evt.neg he ?_
    rw [w64 (n := (i : Int) + 1) (by omega) (by omega), show (i : Int) + 1 = ((i + 1 : Nat) : Int) by omega]
    refine ih (i + 1) (by omega) ?_
    rw [take_last l i hil, List.any_append, ha, Bool.false_or]
    simp [Meet.isId, he]
 exact key l.length 0 (by omega) rfl
theorem first_ev (l : List Sc) (hl : l.length ≤ 1048576) (k : Nat) (hk : k ≤ 60) : spec_l11First.f l (k : Int) = some (l.take k) := by
 unfold spec_l11First.f
 by_cases h : (l.length : Int) > (k : Int)
 ·rw [if_pos h, if_pos (by omega), if_pos (by omega), Option.bind_some, Option.bind_some, if_pos (by simp; omega), Int.toNat_natCast, List.nil_append]
 ·rw [if_neg h, Option.bind_some, if_pos (by simp; omega), List.nil_append, List.take_of_length_le (by omega)]
/-- All put, one by one. -/
def accR (L : List Rk) (l : List Sc) (acc : List Sc) : List Sc := l.foldl (fun a s => putS a ⟨s.f0, RankS.sumR s.f0 L⟩) acc
def accA (L : List Rk) (l : List Rk) (acc : List Sc) : List Sc := l.foldl (fun a r => accR L r.f0 a) acc
theorem accR_sort (L : List Rk) : ∀ (l : List Sc) (acc : List Sc), accR L l (acc.mergeSort le) = (metR L l acc).mergeSort le
 | [], acc => rfl
 | s :: l, acc => by
  show accR L l (putS (acc.mergeSort le) ⟨s.f0, RankS.sumR s.f0 L⟩) = (metR L l (Meet.met L s.f0 acc)).mergeSort le
  rw [← met_sort, accR_sort L l]
theorem accA_sort (L : List Rk) : ∀ (l : List Rk) (acc : List Sc), accA L l (acc.mergeSort le) = (metA L l acc).mergeSort le
 | [], acc => rfl
 | r :: l, acc => by
  show accA L l (accR L r.f0 (acc.mergeSort le)) = (metA L l (metR L r.f0 acc)).mergeSort le
  rw [accR_sort, accA_sort L l]
theorem putS_len (l : List Sc) (s : Sc) : (putS l s).length ≤ l.length + 1 := by
 unfold putS
 split
 ·omega
 ·have := (ins_perm s l).length_eq
  rw [List.length_cons] at this
  omega
theorem accR_len (L : List Rk) : ∀ (l : List Sc) (acc : List Sc), (accR L l acc).length ≤ acc.length + l.length
 | [], acc => Nat.le_refl _
 | s :: l, acc => by
  have h1 := accR_len L l (putS acc ⟨s.f0, RankS.sumR s.f0 L⟩)
  have h2 := putS_len acc ⟨s.f0, RankS.sumR s.f0 L⟩
  show (accR L l (putS acc ⟨s.f0, RankS.sumR s.f0 L⟩)).length ≤ _
  rw [List.length_cons]
  omega
theorem all_1 (L : List Rk) (hL : L.length ≤ 5) (hx : ∀ x ∈ L, x.f0.length ≤ 60) (k1 : Int) (l : List Sc) (hl : l.length ≤ 60) (x10 : List Rk) (x11 x12 : Int) (r : List Sc) : ∀ (n j : Nat) (acc : List Sc), j + n = l.length → acc.length ≤ 1000 + j →
  Evt (fun k => spec_l11All.l0 k L k1 (accR L (l.drop j) acc) x10 x11 (wrap64 (x12 + 1))) r → Evt (fun k => spec_l11All.l1 k L k1 acc x10 x11 x12 l (l.length : Int) (j : Int)) r := by
 intro n
 induction n with
 | zero =>
  intro j acc hj ha h
  rw [List.drop_eq_nil_of_le (by omega)] at h
  exact Evt.step (fun k => spec_l11All.l1.eq_2 _ _ _ _ _ _ _ _ _ k) (Evt.neg (by omega) h)
 | succ n ih =>
  intro j acc hj ha h
  have hjl : j < l.length := by omega
  refine Evt.step (fun k => spec_l11All.l1.eq_2 _ _ _ _ _ _ _ _ _ k) (Evt.pos (by omega) (Evt.pos (by omega) (Evt.pos (by omega) ?_)))
  rw [RankP.rd_at l j hjl]
  refine Evt.bind (RankS.spec_l11Sum_ev l[j].f0 L (by omega) (fun x h => by have := hx x h; omega)) (Evt.bind (put_ev acc (by omega) l[j].f0 _) ?_)
  rw [w64 (n := (j : Int) + 1) (by omega) (by omega), show (j : Int) + 1 = ((j + 1 : Nat) : Int) by omega]
  refine ih (j + 1) _ (by omega) (by have := putS_len acc ⟨l[j].f0, RankS.sumR l[j].f0 L⟩; omega) ?_
  rw [List.drop_eq_getElem_cons hjl] at h
  exact h
theorem all_ev (L : List Rk) (hL : L.length ≤ 5) (hx : ∀ x ∈ L, x.f0.length ≤ 60) (k1 : Nat) (hk : k1 ≤ 60) : Evt (fun k => spec_l11All.f k L (k1 : Int)) (((metA L L []).mergeSort le).take k1) := by
 unfold spec_l11All.f
 have key : ∀ (m i : Nat) (acc : List Sc), i + m = L.length → acc.length ≤ i * 60 → Evt (fun k => spec_l11All.l0 k L (k1 : Int) acc L (L.length : Int) (i : Int)) ((accA L (L.drop i) acc).take k1) := by
  intro m
  induction m with
  | zero =>
   intro i acc hi ha
   rw [List.drop_eq_nil_of_le (by omega)]
   refine Evt.step (fun k => spec_l11All.l0.eq_2 _ _ _ _ _ _ k) (Evt.neg (by omega) ?_)
   rw [first_ev acc (by omega) k1 hk]
   exact Evt.bsome (Evt.const _)
  | succ m ih =>
   intro i acc hi ha
   have hil : i < L.length := by omega
   refine Evt.step (fun k => spec_l11All.l0.eq_2 _ _ _ _ _ _ k) (Evt.pos (by omega) (Evt.pos (by omega) (Evt.pos (by omega) ?_)))
   rw [RankP.rd_atR L i hil]
   have h60 := hx _ (List.getElem_mem hil)
   refine all_1 L hL hx (k1 : Int) L[i].f0 h60 L (L.length : Int) (i : Int) _ L[i].f0.length 0 acc (by omega) (by omega) ?_
   rw [w64 (n := (i : Int) + 1) (by omega) (by omega), show (i : Int) + 1 = ((i + 1 : Nat) : Int) by omega, List.drop_zero, List.drop_eq_getElem_cons hil]
   exact ih (i + 1) _ (by omega) (by have := accR_len L L[i].f0 acc; omega)
 have h := key L.length 0 [] (by omega) (Nat.zero_le _)
 rw [List.drop_zero, show ([] : List Sc) = ([] : List Sc).mergeSort le by simp, accA_sort] at h
 simpa using h
end Go.Proofs.Ytaomjndfjmfelaa.SoB
end

section
namespace Go.Proofs.Ytaomjndfjmfelaa.TopB
set_option linter.unusedVariables false
set_option linter.unusedSimpArgs false
open Go.RowKit Go.Sort Go.Proofs.Ytaomjndfjmfelaa.PQ Go.Proofs.YtaomjndfjmfelaaW.PrintWords Go.Proofs.YtaomjndfjmfelaaW.PrintLast Go.Proofs.Ytaomjndfjmfelaa.Pre
abbrev Sc := SoB.Sc
abbrev Rk := SoB.Rk
/-- One depth's look: those met, the threshold. -/
def rowD (L : List Rk) (d : Nat) (l : List Rk) (acc : List Sc) : List Sc := l.foldl (fun a r => if h : d < r.f0.length then Meet.met L (r.f0[d]).f0 a else a) acc
def thrD (d : Nat) (l : List Rk) (s : Int) : Int := l.foldl (fun s r => if h : d < r.f0.length then wrap64 (s + (r.f0[d]).f1) else s) s
def depths (l : List Rk) : Nat := l.foldl (fun m r => max m r.f0.length) 0
def above (t : Int) (acc : List Sc) : Nat := acc.countP (fun x => decide (t < x.f1))
def topI (L : List Rk) (k : Nat) : Nat → Nat → List Sc → List Sc × Int
 | 0, d, acc => ((acc.mergeSort SoB.le).take k, (d : Int))
 | n + 1, d, acc => if k ≤ above (thrD d L 0) (rowD L d L acc) then (((rowD L d L acc).mergeSort SoB.le).take k, ((d + 1 : Nat) : Int)) else topI L k n (d + 1) (rowD L d L acc)
def ansT (L : List Rk) (k : Nat) : List Sc × Int := if k = 0 then ([], 0) else topI L k (depths L) 0 []
def ansTB (L : List Rk) (k : Int) : List Sc × Int × Bool := if RankG.good L = true ∧ (0 ≤ k ∧ k ≤ 60) then ((ansT L k.toNat).1, (ansT L k.toNat).2, true) else ([], 0, false)
theorem rowD_cons (L : List Rk) (d : Nat) (r : Rk) (l : List Rk) (acc : List Sc) : rowD L d (r :: l) acc = rowD L d l (if h : d < r.f0.length then Meet.met L (r.f0[d]).f0 acc else acc) := rfl
theorem thrD_cons (d : Nat) (r : Rk) (l : List Rk) (s : Int) : thrD d (r :: l) s = thrD d l (if h : d < r.f0.length then wrap64 (s + (r.f0[d]).f1) else s) := rfl
theorem depths_le : ∀ (l : List Rk) (m n : Nat), m ≤ n → (∀ x ∈ l, x.f0.length ≤ n) → l.foldl (fun m r => max m r.f0.length) m ≤ n
 | [], m, n, h, _ => h
 | r :: l, m, n, h, hx => depths_le l _ n (Nat.max_le.2 ⟨h, hx r (List.mem_cons_self ..)⟩) (fun x hm => hx x (List.mem_cons_of_mem _ hm))
theorem le_depths : ∀ (l : List Rk) (m : Nat), m ≤ l.foldl (fun m r => max m r.f0.length) m ∧ ∀ x ∈ l, x.f0.length ≤ l.foldl (fun m r => max m r.f0.length) m
 | [], m => ⟨Nat.le_refl _, fun _ h => by cases h⟩
 | r :: l, m => by
  obtain ⟨h1, h2⟩ := le_depths l (max m r.f0.length)
  refine ⟨Nat.le_trans (Nat.le_max_left _ _) h1, fun x hx => ?_⟩
  rcases List.mem_cons.1 hx with rfl | hx
  ·exact Nat.le_trans (Nat.le_max_right _ _) h1
  ·exact h2 x hx
theorem above_iff (t : Int) : ∀ (S : List Sc) (k : Nat), S.Pairwise (fun a b => b.f1 ≤ a.f1) → (k + 1 ≤ above t S ↔ ∃ h : k < S.length, t < S[k].f1)
 | [], k, _ => ⟨fun h => absurd h (Nat.not_succ_le_zero k), fun ⟨h, _⟩ => absurd h (Nat.not_lt_zero k)⟩
 | a :: S, k, hp => by
  obtain ⟨h1, h2⟩ := List.pairwise_cons.1 hp
  unfold above
  rw [List.countP_cons]
  by_cases ha : t < a.f1
  ·rw [if_pos (decide_eq_true ha)]
   cases k with
   | zero => exact ⟨fun _ => ⟨by simp, ha⟩, fun _ => by omega⟩
   | succ k =>
    have ih := above_iff t S k h2
    unfold above at ih
    constructor
    ·intro h
     obtain ⟨q, hq⟩ := ih.1 (by omega)
     exact ⟨by simpa using q, by simpa using hq⟩
    ·rintro ⟨q, hq⟩
     have := ih.2 ⟨by simpa using q, by simpa using hq⟩
     omega
  ·have h0 : S.countP (fun x => decide (t < x.f1)) = 0 := by
    rw [List.countP_eq_zero]
    intro x hx
    rw [decide_eq_true_eq]
    have := h1 x hx
    omega
   rw [if_neg (by rw [decide_eq_true_eq]; exact ha), h0]
   constructor
   ·intro h; omega
   ·rintro ⟨q, hq⟩
    exfalso
    cases k with
    | zero => exact ha hq
    | succ k =>
     have hm : S[k]'(by simpa using q) ∈ S := List.getElem_mem _
     have := h1 _ hm
     have hq2 : t < (S[k]'(by simpa using q)).f1 := by simpa using hq
     omega
theorem ord_falls {S : List Sc} (h : SoB.Ord S) : S.Pairwise (fun a b => b.f1 ≤ a.f1) := by
 refine List.Pairwise.imp (fun {a b} hab => ?_) h
 rw [SoB.le_iff] at hab
 omega
theorem above_sort (t : Int) (acc : List Sc) : above t (acc.mergeSort SoB.le) = above t acc := (List.mergeSort_perm acc SoB.le).countP_eq _
/-- What is met of a row of ids. -/
def metF (L : List Rk) (ids : List Int) (acc : List Sc) : List Sc := ids.foldl (fun a id => Meet.met L id a) acc
def mk (L : List Rk) (id : Int) : Sc := ⟨id, RankS.sumR id L⟩
theorem metR_F (L : List Rk) : ∀ (l : List Sc) (acc : List Sc), SoB.metR L l acc = metF L (l.map (·.f0)) acc
 | [], acc => rfl
 | s :: l, acc => metR_F L l (Meet.met L s.f0 acc)
theorem metF_app (L : List Rk) (a b : List Int) (acc : List Sc) : metF L (a ++ b) acc = metF L b (metF L a acc) := by
 unfold metF
 rw [List.foldl_append]
theorem metA_F (L : List Rk) : ∀ (l : List Rk) (acc : List Sc), SoB.metA L l acc = metF L (l.flatMap (fun r => r.f0.map (·.f0))) acc
 | [], acc => rfl
 | r :: l, acc => by
  rw [List.flatMap_cons, metF_app, ← metR_F]
  exact metA_F L l (SoB.metR L r.f0 acc)
def seqD (d : Nat) (l : List Rk) : List Int := l.flatMap (fun r => if h : d < r.f0.length then [(r.f0[d]).f0] else [])
theorem rowD_F (L : List Rk) (d : Nat) : ∀ (l : List Rk) (acc : List Sc), rowD L d l acc = metF L (seqD d l) acc
 | [], acc => rfl
 | r :: l, acc => by
  rw [rowD_cons, rowD_F L d l]
  unfold seqD
  rw [List.flatMap_cons, metF_app]
  split <;> rfl
/-- The met list is made of unlike ids, all of them and no others. -/
def Met (L : List Rk) (P : Int → Prop) (acc : List Sc) : Prop := ∃ ids : List Int, ids.Nodup ∧ (∀ i, i ∈ ids ↔ P i) ∧ acc = ids.map (mk L)
theorem met_nil (L : List Rk) : Met L (fun _ => False) [] := ⟨[], List.nodup_nil, fun i => by simp, rfl⟩
theorem any_is (L : List Rk) (id : Int) (ids : List Int) : (ids.map (mk L)).any (Meet.isId id) = true ↔ id ∈ ids := by
 rw [List.any_eq_true]
 constructor
 ·rintro ⟨x, hx, h⟩
  obtain ⟨i, hi, rfl⟩ := List.mem_map.1 hx
  unfold Meet.isId mk at h
  have : i = id := by simpa using h
  rw [← this]
  exact hi
 ·intro h
  refine ⟨mk L id, List.mem_map.2 ⟨id, h, rfl⟩, ?_⟩
  unfold Meet.isId mk
  simp
theorem Met.met {L : List Rk} {P : Int → Prop} {acc : List Sc} (h : Met L P acc) (id : Int) : Met L (fun i => P i ∨ i = id) (Meet.met L id acc) := by
 obtain ⟨ids, hn, hm, rfl⟩ := h
 unfold Meet.met
 by_cases hi : id ∈ ids
 ·rw [if_pos ((any_is L id ids).2 hi)]
  refine ⟨ids, hn, fun i => ⟨fun h => .inl ((hm i).1 h), fun h => ?_⟩, rfl⟩
  rcases h with h | rfl
  ·exact (hm i).2 h
  ·exact hi
 ·rw [if_neg (fun h => hi ((any_is L id ids).1 h))]
  refine ⟨ids ++ [id], ?_, fun i => ?_, by rw [List.map_append]; rfl⟩
  ·rw [List.nodup_append]
   refine ⟨hn, by simp, fun a ha b hb => ?_⟩
   rw [List.mem_singleton] at hb
   rintro rfl
   exact hi (hb ▸ ha)
  ·rw [List.mem_append, List.mem_singleton, hm]
theorem Met.metF {L : List Rk} : ∀ (ids : List Int) {P : Int → Prop} {acc : List Sc}, Met L P acc → Met L (fun i => P i ∨ i ∈ ids) (metF L ids acc)
 | [], P, acc, h => by
  obtain ⟨l, hn, hm, e⟩ := h
  exact ⟨l, hn, fun i => by rw [hm]; simp, e⟩
 | id :: ids, P, acc, h => by
  obtain ⟨l, hn, hm, e⟩ := (h.met id).metF ids
  refine ⟨l, hn, fun i => ?_, e⟩
  rw [hm]
  show ((P i ∨ i = id) ∨ i ∈ ids) ↔ (P i ∨ i ∈ id :: ids)
  rw [List.mem_cons, or_assoc]
theorem Met.congr {L : List Rk} {P Q : Int → Prop} {acc : List Sc} (h : Met L P acc) (e : ∀ i, P i ↔ Q i) : Met L Q acc := by
 obtain ⟨l, hn, hm, h⟩ := h
 exact ⟨l, hn, fun i => by rw [hm, e], h⟩
theorem Met.perm {L : List Rk} {P : Int → Prop} {a b : List Sc} (ha : Met L P a) (hb : Met L P b) : a.Perm b := by
 obtain ⟨l, hn, hm, rfl⟩ := ha
 obtain ⟨l2, hn2, hm2, rfl⟩ := hb
 refine List.Perm.map _ ((List.perm_ext_iff_of_nodup hn hn2).2 (fun i => ?_))
 rw [hm, hm2]
theorem Met.sort {L : List Rk} {P : Int → Prop} {a b : List Sc} (ha : Met L P a) (hb : Met L P b) : a.mergeSort SoB.le = b.mergeSort SoB.le :=
 SoB.ord_uniq ((List.mergeSort_perm a SoB.le).trans ((ha.perm hb).trans (List.mergeSort_perm b SoB.le).symm)) (SoB.ord_sort a) (SoB.ord_sort b)
/-- Behind k that are more than t nothing else counts. -/
theorem take_sort (t : Int) (k : Nat) (A B : List Sc) (hA : k ≤ above t A) (hB : ∀ y ∈ B, y.f1 ≤ t) : ((A ++ B).mergeSort SoB.le).take k = (A.mergeSort SoB.le).take k := by
 obtain ⟨S, hS⟩ : ∃ S, S = A.mergeSort SoB.le := ⟨_, rfl⟩
 have hO : SoB.Ord S := by rw [hS]; exact SoB.ord_sort A
 have hP : S.Perm A := by rw [hS]; exact List.mergeSort_perm A SoB.le
 have hk : k ≤ above t S := by rw [hS, above_sort]; exact hA
 have hlen : k ≤ S.length := Nat.le_trans hk List.countP_le_length
 have hfirst : ∀ a ∈ S.take k, t < a.f1 := by
  intro a ha
  obtain ⟨i, hi, rfl⟩ := List.mem_iff_getElem.1 ha
  rw [List.length_take] at hi
  rw [List.getElem_take]
  obtain ⟨_, h⟩ := (above_iff t S i (ord_falls hO)).1 (by omega)
  exact h
 have hSk : SoB.Ord (S.take k) := List.Pairwise.sublist (List.take_sublist k S) hO
 have hsp : (A ++ B).mergeSort SoB.le = S.take k ++ (S.drop k ++ B).mergeSort SoB.le := by
  refine SoB.ord_uniq ?_ (SoB.ord_sort _) ?_
  ·refine (List.mergeSort_perm _ _).trans ?_
   refine List.Perm.trans ?_ (List.Perm.append_left (S.take k) (List.mergeSort_perm (S.drop k ++ B) SoB.le).symm)
   rw [← List.append_assoc, List.take_append_drop]
   exact List.Perm.append_right B hP.symm
  ·refine List.pairwise_append.2 ⟨hSk, SoB.ord_sort _, fun a ha b hb => ?_⟩
   rcases List.mem_append.1 ((List.mergeSort_perm (S.drop k ++ B) SoB.le).subset hb) with hb | hb
   ·have h2 : SoB.Ord (S.take k ++ S.drop k) := by rw [List.take_append_drop]; exact hO
    exact (List.pairwise_append.1 h2).2.2 a ha b hb
   ·have h1 := hfirst a ha
    have h2 := hB b hb
    rw [SoB.le_iff]
    omega
 rw [hsp, hS, List.take_append_of_le_length (by rw [List.length_take, ← hS]; omega), List.take_take, Nat.min_self]
/-- A list of scores that fall, their ids unlike. -/
def Rank1 (l : List Sc) : Prop := l.Pairwise (fun a b => b.f1 ≤ a.f1 ∧ a.f0 ≠ b.f0) ∧ ∀ y ∈ l, 1 ≤ y.f1 ∧ y.f1 ≤ 1000000
def Ranks (L : List Rk) : Prop := L.length ≤ 5 ∧ ∀ x ∈ L, x.f0.length ≤ 60 ∧ Rank1 x.f0
theorem sum1_out (id : Int) : ∀ (l : List Sc) (s : Int), (∀ y ∈ l, y.f0 ≠ id) → RankS.sum1 id s l = s
 | [], s, _ => rfl
 | a :: l, s, h => by
  unfold RankS.sum1
  rw [List.foldl_cons, if_neg (h a (List.mem_cons_self ..))]
  exact sum1_out id l s (fun y hy => h y (List.mem_cons_of_mem _ hy))
theorem sum1_at (id : Int) : ∀ (l : List Sc) (s : Int) (j : Nat) (hj : j < l.length), l.Pairwise (fun a b => a.f0 ≠ b.f0) → l[j].f0 = id → RankS.sum1 id s l = wrap64 (s + l[j].f1)
 | a :: l, s, 0, hj, hp, h => by
  have h2 : a.f0 = id := h
  unfold RankS.sum1
  rw [List.foldl_cons, if_pos h2]
  refine sum1_out id l _ (fun y hy e => (List.pairwise_cons.1 hp).1 y hy ?_)
  rw [e]
  exact h2
 | a :: l, s, j + 1, hj, hp, h => by
  have hj2 : j < l.length := by simpa using hj
  have h2 : l[j].f0 = id := h
  unfold RankS.sum1
  rw [List.foldl_cons, if_neg (fun e => (List.pairwise_cons.1 hp).1 _ (List.getElem_mem hj2) (by rw [e, h2]))]
  exact sum1_at id l s j hj2 (List.pairwise_cons.1 hp).2 h2
/-- Who was not met so far has no more than the threshold. -/
theorem sum_thr (id : Int) (d : Nat) : ∀ (l : List Rk) (s t : Int), l.length ≤ 5 → (∀ x ∈ l, Rank1 x.f0) → (∀ x ∈ l, ∀ j (h : j < x.f0.length), j ≤ d → x.f0[j].f0 ≠ id) → 0 ≤ s → s ≤ t → t + (l.length : Int) * 1000000 ≤ 10000000 →
  l.foldl (fun s x => RankS.sum1 id s x.f0) s ≤ thrD d l t
 | [], s, t, _, _, _, _, h, _ => h
 | r :: l, s, t, hl, hR, hN, h0, hst, ht => by
  rw [List.length_cons] at hl ht
  rw [List.foldl_cons, thrD_cons]
  have hr := hR r (List.mem_cons_self ..)
  have hn := hN r (List.mem_cons_self ..)
  have hR2 := fun x hx => hR x (List.mem_cons_of_mem _ hx)
  have hN2 := fun x hx => hN x (List.mem_cons_of_mem _ hx)
  have hne : r.f0.Pairwise (fun a b => a.f0 ≠ b.f0) := hr.1.imp (fun h => h.2)
  by_cases hm : ∃ j, ∃ h : j < r.f0.length, r.f0[j].f0 = id
  ·obtain ⟨j, hj, e⟩ := hm
   have hdj : d < j := Nat.lt_of_not_le (fun h => hn j hj h e)
   have hd : d < r.f0.length := by omega
   have h1 := (hr.2 _ (List.getElem_mem hj))
   have h2 := (hr.2 _ (List.getElem_mem hd))
   have h3 := (List.pairwise_iff_getElem.1 hr.1 d j hd hj hdj).1
   rw [sum1_at id r.f0 s j hj hne e, dif_pos hd]
   obtain ⟨y, hy⟩ : ∃ y, y = r.f0[j].f1 := ⟨_, rfl⟩
   obtain ⟨z, hz⟩ : ∃ z, z = (r.f0[d]).f1 := ⟨_, rfl⟩
   rw [← hy] at h1 h3 ⊢
   rw [← hz] at h2 h3 ⊢
   rw [w64 (n := s + y) (by omega) (by omega), w64 (n := t + z) (by omega) (by omega)]
   exact sum_thr id d l _ _ (by omega) hR2 hN2 (by omega) (by omega) (by omega)
  ·rw [sum1_out id r.f0 s (fun y hy e => by
    obtain ⟨j, hj, rfl⟩ := List.mem_iff_getElem.1 hy
    exact hm ⟨j, hj, e⟩)]
   by_cases hd : d < r.f0.length
   ·have h2 := (hr.2 _ (List.getElem_mem hd))
    rw [dif_pos hd]
    obtain ⟨z, hz⟩ : ∃ z, z = (r.f0[d]).f1 := ⟨_, rfl⟩
    rw [← hz] at h2 ⊢
    rw [w64 (n := t + z) (by omega) (by omega)]
    exact sum_thr id d l _ _ (by omega) hR2 hN2 h0 (by omega) (by omega)
   ·rw [dif_neg hd]
    exact sum_thr id d l _ _ (by omega) hR2 hN2 h0 hst (by omega)
/-- Those at depths below d. -/
def Upto (L : List Rk) (d : Nat) (i : Int) : Prop := ∃ r ∈ L, ∃ j, ∃ h : j < r.f0.length, j < d ∧ r.f0[j].f0 = i
theorem mem_seq (L : List Rk) (d : Nat) (i : Int) : i ∈ seqD d L ↔ ∃ r ∈ L, ∃ h : d < r.f0.length, r.f0[d].f0 = i := by
 unfold seqD
 rw [List.mem_flatMap]
 constructor
 ·rintro ⟨r, hr, h⟩
  refine ⟨r, hr, ?_⟩
  split at h
  ·rename_i hd
   exact ⟨hd, (List.mem_singleton.1 h).symm⟩
  ·cases h
 ·rintro ⟨r, hr, hd, e⟩
  refine ⟨r, hr, ?_⟩
  rw [dif_pos hd]
  exact List.mem_singleton.2 e.symm
theorem upto_step (L : List Rk) (d : Nat) (i : Int) : (Upto L d i ∨ i ∈ seqD d L) ↔ Upto L (d + 1) i := by
 rw [mem_seq]
 constructor
 ·rintro (⟨r, hr, j, hj, hd, e⟩ | ⟨r, hr, hd, e⟩)
  ·exact ⟨r, hr, j, hj, by omega, e⟩
  ·exact ⟨r, hr, d, hd, by omega, e⟩
 ·rintro ⟨r, hr, j, hj, hd, e⟩
  by_cases h : j = d
  ·subst h
   exact .inr ⟨r, hr, hj, e⟩
  ·exact .inl ⟨r, hr, j, hj, by omega, e⟩
def Any (L : List Rk) (i : Int) : Prop := ∃ r ∈ L, ∃ y ∈ r.f0, y.f0 = i
theorem metA_met (L : List Rk) : Met L (Any L) (SoB.metA L L []) := by
 rw [metA_F]
 refine ((met_nil L).metF _).congr (fun i => ?_)
 rw [List.mem_flatMap]
 constructor
 ·rintro (h | ⟨r, hr, h⟩)
  ·cases h
  ·obtain ⟨y, hy, e⟩ := List.mem_map.1 h
   exact ⟨r, hr, y, hy, e⟩
 ·rintro ⟨r, hr, y, hy, e⟩
  exact .inr ⟨r, hr, List.mem_map.2 ⟨y, hy, e⟩⟩
theorem upto_all (L : List Rk) (i : Int) : Upto L (depths L) i ↔ Any L i := by
 constructor
 ·rintro ⟨r, hr, j, hj, _, e⟩
  exact ⟨r, hr, _, List.getElem_mem hj, e⟩
 ·rintro ⟨r, hr, y, hy, e⟩
  obtain ⟨j, hj, rfl⟩ := List.mem_iff_getElem.1 hy
  exact ⟨r, hr, j, hj, Nat.lt_of_lt_of_le hj ((le_depths L 0).2 r hr), e⟩
theorem topI_all (L : List Rk) (hR : Ranks L) (k : Nat) : ∀ (n d : Nat) (acc : List Sc), d + n = depths L → Met L (Upto L d) acc → (topI L k n d acc).1 = ((SoB.metA L L []).mergeSort SoB.le).take k
 | 0, d, acc, hd, hm => by
  have : d = depths L := by omega
  subst this
  show (acc.mergeSort SoB.le).take k = _
  rw [(hm.congr (upto_all L)).sort (metA_met L)]
 | n + 1, d, acc, hd, hm => by
  have hm2 : Met L (Upto L (d + 1)) (rowD L d L acc) := by
   rw [rowD_F]
   exact (hm.metF _).congr (upto_step L d)
  show (if _ then _ else _ : List Sc × Int).1 = _
  by_cases ha : k ≤ above (thrD d L 0) (rowD L d L acc)
  ·rw [if_pos ha]
   obtain ⟨ids, hn, hmi, he⟩ := hm2
   obtain ⟨all, hn2, hmi2, he2⟩ := metA_met L
   obtain ⟨rest, hrest⟩ : ∃ rest, rest = all.filter (fun i => decide (i ∉ ids)) := ⟨_, rfl⟩
   have hperm : all.Perm (ids ++ rest) := by
    refine (List.perm_ext_iff_of_nodup hn2 ?_).2 (fun i => ?_)
    ·rw [List.nodup_append]
     refine ⟨hn, by rw [hrest]; exact hn2.filter _, fun a ha b hb => ?_⟩
     rintro rfl
     rw [hrest, List.mem_filter, decide_eq_true_eq] at hb
     exact hb.2 ha
    ·rw [List.mem_append, hrest, List.mem_filter, decide_eq_true_eq]
     constructor
     ·intro h
      by_cases h2 : i ∈ ids
      ·exact .inl h2
      ·exact .inr ⟨h, h2⟩
     ·rintro (h | ⟨h, _⟩)
      ·rw [hmi2]
       obtain ⟨r, hr, j, hj, _, e⟩ := (hmi i).1 h
       exact ⟨r, hr, _, List.getElem_mem hj, e⟩
      ·exact h
   have hsort : (SoB.metA L L []).mergeSort SoB.le = (ids.map (mk L) ++ rest.map (mk L)).mergeSort SoB.le := by
    rw [he2]
    have hp : (all.map (mk L)).Perm (ids.map (mk L) ++ rest.map (mk L)) := by
     rw [← List.map_append]
     exact hperm.map _
    exact SoB.ord_uniq ((List.mergeSort_perm _ SoB.le).trans (hp.trans (List.mergeSort_perm _ SoB.le).symm)) (SoB.ord_sort _) (SoB.ord_sort _)
   rw [hsort, he]
   refine (take_sort (thrD d L 0) k _ _ (by rw [← he]; exact ha) (fun y hy => ?_)).symm
   obtain ⟨i, hi, rfl⟩ := List.mem_map.1 hy
   rw [hrest, List.mem_filter, decide_eq_true_eq, hmi] at hi
   refine sum_thr i d L 0 0 hR.1 (fun x hx => (hR.2 x hx).2) (fun x hx j hj hjd e => hi.2 ⟨x, hx, j, hj, by omega, e⟩) (Int.le_refl _) (Int.le_refl _) ?_
   have := hR.1
   omega
  ·rw [if_neg ha]
   exact topI_all L hR k n (d + 1) _ (by omega) hm2
theorem ansT_all (L : List Rk) (hR : Ranks L) (k : Nat) : (ansT L k).1 = ((SoB.metA L L []).mergeSort SoB.le).take k := by
 unfold ansT
 by_cases h : k = 0
 ·rw [if_pos h, h, List.take_zero]
 ·rw [if_neg h]
  refine topI_all L hR k (depths L) 0 [] (by omega) ((met_nil L).congr (fun i => ⟨fun h => h.elim, ?_⟩))
  rintro ⟨r, hr, j, hj, hd, _⟩
  exact Nat.not_lt_zero _ hd
/-- One of the best few: its id stands in a list, its score is the sum. -/
theorem best_mem (L : List Rk) (k : Nat) (s : Sc) (h : s ∈ ((SoB.metA L L []).mergeSort SoB.le).take k) : s.f1 = RankS.sumR s.f0 L ∧ Any L s.f0 := by
  have h2 := (List.mergeSort_perm _ SoB.le).subset (List.mem_of_mem_take h)
  obtain ⟨ids, _, hm, e⟩ := metA_met L
  rw [e] at h2
  obtain ⟨i, hi, rfl⟩ := List.mem_map.1 h2
  exact ⟨rfl, (hm i).1 hi⟩
end Go.Proofs.Ytaomjndfjmfelaa.TopB
end

section
namespace Go.Proofs.Ytaomjndfjmfelaa.TopB
set_option linter.unusedVariables false
set_option linter.unusedSimpArgs false
open Go.RowKit Go.Shelf Go.Lib Go.Sort Go.Proofs.Ytaomjndfjmfelaa.PQ Go.Proofs.YtaomjndfjmfelaaW.PrintWords Go.Proofs.YtaomjndfjmfelaaW.PrintLast Go.Proofs.YtaomjndfjmfelaaW.PrintMore Go.Proofs.Ytaomjndfjmfelaa.Pre Go.Proofs.Ytaomjndfjmfelaa.SoB
attribute [local go_sem] max2_int max_two
theorem depths_step (L : List Rk) (i : Nat) (h : i < L.length) : depths (L.take (i + 1)) = max (depths (L.take i)) L[i].f0.length := by
 unfold depths
 rw [take_last L i h, List.foldl_append]
 rfl
theorem rowD_step (L : List Rk) (d : Nat) (l : List Rk) (i : Nat) (h : i < l.length) (acc : List Sc) : rowD L d (l.take (i + 1)) acc = if h2 : d < l[i].f0.length then Meet.met L (l[i].f0[d]).f0 (rowD L d (l.take i) acc) else rowD L d (l.take i) acc := by
 unfold rowD
 rw [take_last l i h, List.foldl_append]
 rfl
theorem thrD_step (d : Nat) (l : List Rk) (i : Nat) (h : i < l.length) (s : Int) : thrD d (l.take (i + 1)) s = if h2 : d < l[i].f0.length then wrap64 (thrD d (l.take i) s + (l[i].f0[d]).f1) else thrD d (l.take i) s := by
 unfold thrD
 rw [take_last l i h, List.foldl_append]
 rfl
theorem above_step (t : Int) (l : List Sc) (j : Nat) (h : j < l.length) : above t (l.take (j + 1)) = if t < l[j].f1 then above t (l.take j) + 1 else above t (l.take j) := by
 unfold above
 rw [take_last l j h, List.countP_append, List.countP_singleton]
 by_cases hx : t < l[j].f1
 ·rw [if_pos hx, if_pos (decide_eq_true hx)]
 ·rw [if_neg hx, if_neg (by rw [decide_eq_true_eq]; exact hx)]
  rfl
theorem above_le (t : Int) (l : List Sc) : above t l ≤ l.length := List.countP_le_length
set_option maxRecDepth 100000 in
set_option maxHeartbeats 8000000 in
theorem topBest_calls (L : List Rk) (A : Option Addr) (c k : Nat) (w : World) (hr : Kd.C k77 w A L.length L) (hc : L.length ≤ c) (h5 : L.length ≤ 5) (h60 : ∀ x ∈ L, x.f0.length ≤ 60) (hk : k ≤ 60) :
  Calls Try.prog 107 #[.slice A L.length c, .int .i64 (k : Int)] w fun e w' => ∃ v : Value, e = .returned (.tuple #[v, .int .i64 (ansT L k).2]) ∧ Kd.R k79 79 w' w.heap.size (fun _ => True) v (ansT L k).1 ∧ Below w.heap.size w w' := by
 have HR := aM hr
 have HC := aM hc
 have HK := aM hk
 have HF : Aside0 (L.length ≤ 5 ∧ ∀ x ∈ L, x.f0.length ≤ 60) := ⟨⟨h5, h60⟩⟩
 have hlen : (L.length : Int) ≤ 5 := by omega
 have hk60 : (k : Int) ≤ 60 := by omega
 obtain ⟨D, hD⟩ : ∃ D, D = depths L := ⟨_, rfl⟩
 have HDD := aM hD
 have hD60 : (D : Int) ≤ 60 := by
  have := depths_le L 0 60 (Nat.zero_le _) h60
  rw [hD]
  unfold depths
  omega
 have HD60 := aM hD60
 clear hr hc hk h5 h60 hD
 go_enter Try.func107, Try.ntmps107
 go_upto_region 2 with (fail)
 obtain ⟨w3, hw3⟩ : ∃ W_, W_ = w.alloc (.cells #[.slice A L.length c, .slice none 0 0] 123) := ⟨_, rfl⟩
 rw [← hw3]
 have HM3 := aM (show w3.heap[w.heap.size]? = some (.cells #[.slice A L.length c, .slice none 0 0] 123 (0, 0)) by rw [hw3]; exact Meet.at_new w _)
 have HB3 := aM (show Below w.heap.size w w3 by rw [hw3]; exact below_alloc (Below.refl _ _) _)
 clear hw3
 go_wp2
 go_loopg [7, 21] L.length (fun kq v7 v21 w' => ∃ (i m : Nat), v7 = .int .i64 (m : Int) ∧ v21 = .int .i64 (i : Int) ∧ i ≤ L.length ∧ kq = L.length - i ∧ Aside0 (m = depths (L.take i)) ∧ Aside0 (w'.heap[w.heap.size]? = some (.cells #[.slice A L.length c, .slice none 0 0] 123 (0, 0))) ∧ Aside0 (Below w.heap.size w w'))
 case atStart => exact ⟨0, 0, rfl, rfl, Nat.zero_le _, rfl, ⟨rfl⟩, HM3, HB3⟩
 case round =>
  clear HM3 HB3
  obtain ⟨i, m, rfl, rfl, hi, hkq, HE, HM, HB⟩ := hrel
  have HKQ := aM hkq
  clear hkq
  by_cases hlt : i < L.length
  ·obtain ⟨ad, A0, c0, ead, hcell, hc0, hC0⟩ := at_T77 HR.out (i : Int) (by omega) (by omega)
   replace hcell := (HB.out.cell (World.block_lt_of_cell? w _ hcell)).trans hcell
   subst ead
   have HLT := aM hlt
   have hrd : rd_T77 L (i : Int) = L[i]'HLT.out := RankP.rd_atR L i hlt
   rw [Int.toNat_natCast, hrd] at hcell
   obtain ⟨r, hrr⟩ : ∃ r, r = (L[i]'HLT.out).f0 := ⟨_, rfl⟩
   rw [← hrr] at hcell
   have HST := aM (depths_step L i HLT.out)
   rw [← hrr] at HST
   have hlt2 : (i : Int) < (L.length : Int) := by omega
   by_cases hml : m < r.length
   ·have hml2 : (m : Int) < (r.length : Int) := by omega
    have HMX : Aside0 (r.length = max m r.length) := ⟨by omega⟩
    clear hrd hrr hlt hi hc0 hC0 hml
    go_wp2
    go_roundg (L.length - (i + 1))
    case measure => have := HKQ.out; have := HLT.out; omega
    case rel => exact ⟨i + 1, r.length, rfl, by go_num, HLT.out, rfl, ⟨by rw [HST.out, ← HE.out]; exact HMX.out⟩, ⟨blk_alloc HM.out _⟩, ⟨below_alloc HB.out _⟩⟩
   ·have hml2 : ¬ ((m : Int) < (r.length : Int)) := by omega
    have HMX : Aside0 (m = max m r.length) := ⟨by omega⟩
    clear hrd hrr hlt hi hc0 hC0 hml
    go_wp2
    go_roundg (L.length - (i + 1))
    case measure => have := HKQ.out; have := HLT.out; omega
    case rel => exact ⟨i + 1, m, rfl, by go_num, HLT.out, rfl, ⟨by rw [HST.out, ← HE.out]; exact HMX.out⟩, ⟨blk_alloc HM.out _⟩, ⟨below_alloc HB.out _⟩⟩
  ·obtain rfl : i = L.length := by omega
   have hmD : D = m := by rw [HE.out, List.take_length, HDD.out]
   subst hmD
   clear hi hlt
   by_cases hk0 : k = 0
   ·have hkb : ((k : Int) == 0) = true := by rw [hk0]; rfl
    have HK0 := aM hk0
    clear hk0
    go_wp2
    go_ret2
    rw [show ansT L k = ([], 0) by unfold ansT; rw [if_pos HK0.out]]
    exact ⟨_, rfl, Kd.R_nil _ _ _ _ _, HB.out⟩
   ·have hkb : ((k : Int) == 0) = false := by rw [beq_eq_false_iff_ne]; omega
    have HK0 := aM hk0
    clear hk0
    go_wp2
    clear hkb
    go_loopg [34] D (fun kq v34 w' => ∃ (d : Nat) (v : Value) (acc : List Sc), v34 = .int .i64 (d : Int) ∧ d ≤ D ∧ kq = D - d ∧ Aside0 (w'.heap[w.heap.size]? = some (.cells #[.slice A L.length c, v] 123 (0, 0))) ∧ Aside0 (Kd.R k79 79 w' w.heap.size (fun _ => True) v acc) ∧ Aside0 (Below w.heap.size w w') ∧ Aside0 (topI L k (D - d) d acc = ansT L k) ∧ Aside0 (acc.length ≤ d * 5))
    case atStart => exact ⟨0, _, [], rfl, Nat.zero_le _, rfl, HM, ⟨Kd.R_nil _ _ _ _ _⟩, HB, ⟨by unfold ansT; rw [if_neg HK0.out, HDD.out]; rfl⟩, ⟨Nat.zero_le _⟩⟩
    case round =>
     clear HM HB HE HKQ
     obtain ⟨d, v, acc, rfl, hdD, hkq, HM, HO, HB, HT, HLn⟩ := hrel
     have HKQ := aM hkq
     clear hkq
     by_cases hlt : d < D
     ·have HLT := aM hlt
      have hlt2 : (d : Int) < (D : Int) := by omega
      have hd60 : (d : Int) < 60 := by omega
      clear hlt hdD
      go_wp2
      go_loopg [11, 39] L.length (fun kq v11 v39 w' => ∃ (i : Nat) (z : Int) (u : Value) (l2 : List Sc), v11 = .int .i64 z ∧ v39 = .int .i64 (i : Int) ∧ i ≤ L.length ∧ kq = L.length - i ∧ Aside0 (z = thrD d (L.take i) 0) ∧ Aside0 (w'.heap[w.heap.size]? = some (.cells #[.slice A L.length c, u] 123 (0, 0))) ∧ Aside0 (Kd.R k79 79 w' w.heap.size (fun _ => True) u l2) ∧ Aside0 (Below w.heap.size w w') ∧ Aside0 (l2 = rowD L d (L.take i) acc) ∧ Aside0 (l2.length ≤ d * 5 + i))
      case atStart => exact ⟨0, 0, v, acc, rfl, rfl, Nat.zero_le _, rfl, ⟨rfl⟩, HM, HO, HB, ⟨rfl⟩, ⟨by have := HLn.out; omega⟩⟩
      case round =>
       clear HM HO HB
       obtain ⟨i, z, u, l2, rfl, rfl, hi, hkq2, HZ, HM, HO, HB, HE, HL5⟩ := hrel
       have HKQ2 := aM hkq2
       clear hkq2
       by_cases hit : i < L.length
       ·obtain ⟨ad, A0, c0, ead, hcell, hc0, hC0⟩ := at_T77 HR.out (i : Int) (by omega) (by omega)
        replace hcell := (HB.out.cell (World.block_lt_of_cell? w _ hcell)).trans hcell
        subst ead
        have HIT := aM hit
        have hrd : rd_T77 L (i : Int) = L[i]'HIT.out := RankP.rd_atR L i hit
        rw [Int.toNat_natCast, hrd] at hcell
        rw [hrd] at hc0 hC0
        have HSR := aM (rowD_step L d L i HIT.out acc)
        have HSZ := aM (thrD_step d L i HIT.out 0)
        obtain ⟨r, hrr⟩ : ∃ r, r = (L[i]'HIT.out).f0 := ⟨_, rfl⟩
        have hr60 : r.length ≤ 60 := by rw [hrr]; exact HF.out.2 _ (List.getElem_mem hit)
        simp only [← hrr] at hcell hc0 hC0 HSR HSZ
        have HC0 := aM hC0
        have hit2 : (i : Int) < (L.length : Int) := by omega
        have hrl : (r.length : Int) ≤ 60 := by omega
        by_cases hd : d < r.length
        ·have HDR := aM hd
         obtain ⟨ad2, ead2, hs0, hs1⟩ := at_T79 (Kd.C_below HC0.out HB.out) (d : Int) (by omega) (by omega)
         subst ead2
         have hrd2 : rd_T79 r (d : Int) = r[d]'HDR.out := RankP.rd_at r d hd
         rw [Int.toNat_natCast, hrd2] at hs0 hs1
         rw [dif_pos HDR.out] at HSR HSZ
         obtain ⟨x, hx⟩ : ∃ x, x = r[d]'HDR.out := ⟨_, rfl⟩
         rw [← hx] at hs0 hs1 HSR HSZ
         have hd2 : (d : Int) < (r.length : Int) := by omega
         have hba : Below wr.heap.size wr (wr.alloc (.cells #[.slice (some ad2) r.length c0] 77)) := below_alloc (Below.refl _ _) _
         replace hs0 := (hba.cell (World.block_lt_of_cell? wr _ hs0)).trans hs0
         replace hs1 := (hba.cell (World.block_lt_of_cell? wr _ hs1)).trans hs1
         clear hba
         have HMC := aM (fun W (hW : W = wr.alloc (.cells #[.slice (some ad2) r.length c0] 77)) => Meet.meet_calls w (some ad) c L w.heap.size u l2 x.f0 W (by rw [hW]; exact below_alloc HB.out _) HR.out HC.out (by have := HF.out.1; omega) (fun y hy => by have := HF.out.2 y hy; omega) (Nat.le_refl _) (by rw [hW]; exact blk_alloc HM.out _) (by rw [hW]; exact Kd.R_alloc HO.out _) (by have := HL5.out; have := HF.out.1; have := HLT.out; have := HD60.out; omega))
         clear hrd hrd2 hx hd hit hi hrr hr60 hC0
         go_wp2_with (go_at_call 100; go_loud ((refine (HMC.out _ rfl).mono ?_); rintro e w6 ⟨rfl, v6, hm6, ho6, hb6⟩; have HM6 := aM hm6; have HO6 := aM ho6; have HB6 := aM hb6; clear hm6 ho6 hb6))
         go_roundg (L.length - (i + 1))
         case measure => have := HKQ2.out; have := HIT.out; omega
         case rel => exact ⟨i + 1, _, v6, _, rfl, by go_num, HIT.out, rfl, ⟨by rw [HSZ.out, HZ.out]⟩, HM6, HO6, HB6, ⟨by rw [HSR.out, HE.out]⟩, ⟨by have := met_len L x.f0 l2; have := HL5.out; omega⟩⟩
        ·have HDR := aM hd
         rw [dif_neg HDR.out] at HSR HSZ
         have hd2 : ¬ ((d : Int) < (r.length : Int)) := by omega
         have hd3 : decide ((d : Int) < (r.length : Int)) = false := decide_eq_false hd2
         clear hrd hd hit hi hrr hr60 hC0
         go_wp2
         go_roundg (L.length - (i + 1))
         case measure => have := HKQ2.out; have := HIT.out; omega
         case rel => exact ⟨i + 1, z, u, l2, rfl, by go_num, HIT.out, rfl, ⟨by rw [HSZ.out, HZ.out]⟩, ⟨blk_alloc HM.out _⟩, ⟨Kd.R_alloc HO.out _⟩, ⟨below_alloc HB.out _⟩, ⟨by rw [HSR.out, HE.out]⟩, ⟨by have := HL5.out; omega⟩⟩
       ·obtain rfl : i = L.length := by omega
        have HE2 : Aside0 (l2 = rowD L d L acc) := ⟨by rw [HE.out, List.take_length]⟩
        have HZ2 : Aside0 (z = thrD d L 0) := ⟨by rw [HZ.out, List.take_length]⟩
        clear hi hit HE HZ HKQ2
        obtain ⟨Au, cu, rfl⟩ := Kd.R_slice HO.out
        have hcl1 : wr.cell? ⟨w.heap.size, 1, none⟩ = some (.slice Au l2.length cu) := Meet.cell1 HM.out
        have hl2 : (l2.length : Int) ≤ 1000 := by have := HL5.out; have := HF.out.1; omega
        go_wp2
        go_loopg [12, 67] l2.length (fun kq v12 v67 w' => ∃ (j m : Nat), v12 = .int .i64 (m : Int) ∧ v67 = .int .i64 (j : Int) ∧ j ≤ l2.length ∧ kq = l2.length - j ∧ Aside0 (m = above z (l2.take j)) ∧ Aside0 (w'.heap[w.heap.size]? = some (.cells #[.slice A L.length c, .slice Au l2.length cu] 123 (0, 0))) ∧ Aside0 (Kd.R k79 79 w' w.heap.size (fun _ => True) (.slice Au l2.length cu) l2) ∧ Aside0 (Below w.heap.size w w'))
        case atStart => exact ⟨0, 0, rfl, rfl, Nat.zero_le _, rfl, ⟨rfl⟩, HM, HO, HB⟩
        case round =>
         clear HM HO HB hcl1
         obtain ⟨j, m, rfl, rfl, hj, hkq3, HMJ, HM, HO, HB⟩ := hrel
         have HKQ3 := aM hkq3
         clear hkq3
         have hm60 : m ≤ 1000 := by
          have h1 := above_le z (l2.take j)
          rw [← HMJ.out, List.length_take] at h1
          omega
         by_cases hjt : j < l2.length
         ·obtain ⟨ad2, ead2, hs0, hs1⟩ := at_T79 (Kd.R_reads' HO.out).2.2 (j : Int) (by omega) (by omega)
          subst ead2
          have HJT := aM hjt
          have hrd2 : rd_T79 l2 (j : Int) = l2[j]'HJT.out := RankP.rd_at l2 j hjt
          rw [Int.toNat_natCast, hrd2] at hs0 hs1
          have HST := aM (above_step z l2 j HJT.out)
          obtain ⟨x, hx⟩ : ∃ x, x = l2[j]'HJT.out := ⟨_, rfl⟩
          rw [← hx] at hs0 hs1 HST
          have hj2 : (j : Int) < (l2.length : Int) := by omega
          have hm2 : (m : Int) ≤ 1000 := by omega
          by_cases ht : z < x.f1
          ·have htb : decide (z < x.f1) = true := decide_eq_true ht
           rw [if_pos ht] at HST
           clear hrd2 hx hjt hj hm60
           go_wp2
           go_roundg (l2.length - (j + 1))
           case measure => have := HKQ3.out; have := HJT.out; omega
           case rel => exact ⟨j + 1, m + 1, by go_num, by go_num, HJT.out, rfl, ⟨by rw [HST.out, HMJ.out]⟩, ⟨blk_alloc HM.out _⟩, ⟨Kd.R_alloc HO.out _⟩, ⟨below_alloc HB.out _⟩⟩
          ·have htb : decide (z < x.f1) = false := decide_eq_false ht
           rw [if_neg ht] at HST
           clear hrd2 hx hjt hj hm60
           go_wp2
           go_roundg (l2.length - (j + 1))
           case measure => have := HKQ3.out; have := HJT.out; omega
           case rel => exact ⟨j + 1, m, rfl, by go_num, HJT.out, rfl, ⟨by rw [HST.out, HMJ.out]⟩, ⟨blk_alloc HM.out _⟩, ⟨Kd.R_alloc HO.out _⟩, ⟨below_alloc HB.out _⟩⟩
         ·obtain rfl : j = l2.length := by omega
          have HMA : Aside0 (m = above (thrD d L 0) (rowD L d L acc)) := ⟨by rw [HMJ.out, List.take_length, HZ2.out, HE2.out]⟩
          have HSTEP : Aside0 (ansT L k = if k ≤ m then ((l2.mergeSort le).take k, ((d + 1 : Nat) : Int)) else topI L k (D - (d + 1)) (d + 1) l2) := ⟨by
           rw [← HT.out, show D - d = (D - (d + 1)) + 1 by have := HLT.out; omega, HMA.out, HE2.out]
           rfl⟩
          clear hj hjt HMJ
          by_cases hkm : k ≤ m
          ·rw [if_pos hkm] at HSTEP
           have HBC := aM (fun W (hW : W = wr) => best_calls w (.slice A L.length c) w.heap.size (.slice Au l2.length cu) l2 k W (by rw [hW]; exact HB.out) (Nat.le_refl _) (by rw [hW]; exact HM.out) (by rw [hW]; exact HO.out) (by have := HL5.out; have := HF.out.1; have := HLT.out; have := HD60.out; omega) (by have := HK.out; omega))
           have HWS := aM HB.out.size
           clear hm60
           go_wp2_with (go_at_call 101; go_loud ((refine (HBC.out _ rfl).mono ?_); rintro e w7 ⟨v7, rfl, ho7, hb7⟩; have HO7 := aM ho7; have HB7 := aM hb7; clear ho7 hb7))
           go_ret2
           rw [HSTEP.out]
           exact ⟨_, rfl, Kd.R_lower HO7.out HWS.out, HB7.out⟩
          ·rw [if_neg hkm] at HSTEP
           clear hm60
           go_wp2
           go_roundg (D - (d + 1))
           case measure => have := HKQ.out; have := HLT.out; omega
           case rel => exact ⟨d + 1, _, l2, by go_num, HLT.out, rfl, HM, HO, HB, ⟨HSTEP.out.symm⟩, ⟨by have := HL5.out; have := HF.out.1; omega⟩⟩
     ·obtain rfl : d = D := by omega
      have HBC := aM (fun W (hW : W = wr) => best_calls w (.slice A L.length c) w.heap.size v acc k W (by rw [hW]; exact HB.out) (Nat.le_refl _) (by rw [hW]; exact HM.out) (by rw [hW]; exact HO.out) (by have := HLn.out; have := HD60.out; omega) (by have := HK.out; omega))
      have HWS := aM HB.out.size
      have HSTEP : Aside0 (ansT L k = ((acc.mergeSort le).take k, (d : Int))) := ⟨by rw [← HT.out, Nat.sub_self]; rfl⟩
      clear hdD hlt
      go_wp2_with (go_at_call 101; go_loud ((refine (HBC.out _ rfl).mono ?_); rintro e w7 ⟨v7, rfl, ho7, hb7⟩; have HO7 := aM ho7; have HB7 := aM hb7; clear ho7 hb7))
      go_ret2
      rw [HSTEP.out]
      exact ⟨_, rfl, Kd.R_lower HO7.out HWS.out, HB7.out⟩
end Go.Proofs.Ytaomjndfjmfelaa.TopB
end

section
namespace Go.Proofs.Ytaomjndfjmfelaa.PQ
open Go.RowKit Go.Proofs.YtaomjndfjmfelaaW.PrintWords Go.Proofs.YtaomjndfjmfelaaW.PrintLast Go.Proofs.YtaomjndfjmfelaaW.PrintMore
attribute [local go_sem] max2_int min2_int max_two min_two max_three min_three max_four min_four
set_option linter.unusedVariables false
set_option linter.unusedSimpArgs false
def impl_topBest.f (l0 : List (S77)) (a1 : Int) : Option (List (S79) × Int) := if (l0.length ≤ 5 ∧ ∀ x ∈ l0, x.f0.length ≤ 60) ∧ (0 ≤ a1 ∧ a1 ≤ 60) then some (TopB.ansT l0 a1.toNat) else none
theorem impl_topBest.calls (A0 : Option Addr) (c0 : Nat) (l0 : List (S77)) (a1 : Int) (r1 : List (S79)) (r2 : Int) (w : World) (hr0 : Kd.C k77 w A0 l0.length l0) (hc0 : l0.length ≤ c0) (h : impl_topBest.f l0 a1 = some (r1, r2)) :
  Calls Try.prog 107 #[.slice A0 l0.length c0, .int .i64 a1] w fun e w' => ∃ v0_ : Value, e = .returned (.tuple #[v0_, .int .i64 r2]) ∧ Kd.R k79 79 w' w.heap.size (fun _ => True) v0_ r1 ∧ Below w.heap.size w w' := by
 unfold impl_topBest.f at h
 split at h
 ·rename_i hs
  have h1 := Option.some.inj h
  obtain ⟨n, rfl⟩ := Int.eq_ofNat_of_zero_le hs.2.1
  rw [Int.toNat_natCast] at h1
  have := TopB.topBest_calls l0 A0 c0 n w hr0 hc0 hs.1.1 hs.1.2 (by omega)
  rw [h1] at this
  exact this
 ·cases h

end Go.Proofs.Ytaomjndfjmfelaa.PQ
end

section
namespace Go.Proofs.Ytaomjndfjmfelaa.TopB
set_option linter.unusedVariables false
set_option linter.unusedSimpArgs false
open Go.RowKit Go.Shelf Go.Lib Go.Sort Go.Proofs.Ytaomjndfjmfelaa.PQ Go.Proofs.YtaomjndfjmfelaaW.PrintWords Go.Proofs.YtaomjndfjmfelaaW.PrintLast Go.Proofs.YtaomjndfjmfelaaW.PrintMore Go.Proofs.Ytaomjndfjmfelaa.Pre Go.Proofs.Ytaomjndfjmfelaa.SoB
set_option maxRecDepth 100000 in
set_option maxHeartbeats 2000000 in
theorem topBestI (L : List Rk) (A : Option Addr) (c : Nat) (a : Int) (w : World) (hr : Kd.C k77 w A L.length L) (hc : L.length ≤ c) :
  Calls Try.prog 55 #[.slice A L.length c, .int .i64 a] w fun e w' => ∃ v : Value, e = .returned (.tuple #[v, .int .i64 (ansTB L a).2.1, .bool (ansTB L a).2.2]) ∧ Kd.R k79 79 w' w.heap.size (fun _ => True) v (ansTB L a).1 ∧ Below w.heap.size w w' := by
 have HR := aM hr
 have HC := aM hc
 have HG := aM (RankG.goodR_calls A c L w hr hc)
 have HWI := aM (fun W (b : Bool) (hb : decide (0 ≤ a ∧ a ≤ 60) = b) => Rank.within_calls a 0 60 b W hb)
 by_cases hg : RankG.good L = true
 ·have HGF := aM (good_facts hg)
  rw [hg] at HG
  by_cases hk : 0 ≤ a ∧ a ≤ 60
  ·have hans : ansTB L a = ((ansT L a.toNat).1, (ansT L a.toNat).2, true) := by unfold ansTB; rw [if_pos ⟨hg, hk⟩]
   rw [hans]
   obtain ⟨n, rfl⟩ := Int.eq_ofNat_of_zero_le hk.1
   rw [Int.toNat_natCast]
   have HKD := aM (show decide (0 ≤ (n : Int) ∧ (n : Int) ≤ 60) = true from decide_eq_true hk)
   have HN : Aside0 (n ≤ 60) := ⟨by omega⟩
   clear hr hc hg hk hans
   go_enter Try.func55, Try.ntmps55
   go_wp2_with (first | (go_at_call 58; go_loud ((with_reducible refine HG.out.mono ?_); rintro e w1 ⟨rfl, hb1⟩; have HB1 := aM hb1; clear hb1)) | (go_at_call 88; go_loud ((with_reducible refine (HWI.out _ true HKD.out).mono ?_); rintro e w2 ⟨rfl, hb2⟩; have HB2 := aM (below_step HB1.out hb2); clear hb2)) | (go_at_call 107; go_loud ((with_reducible refine (topBest_calls L A c n _ (Kd.C_below HR.out HB2.out) HC.out HGF.out.1 HGF.out.2 HN.out).mono ?_); rintro e w3 ⟨v3, rfl, ho3, hb3⟩; have HO3 := aM ho3; have HB3 := aM (below_step HB2.out hb3); clear ho3 hb3)))
   go_ret3
   exact ⟨_, rfl, Kd.R_lower HO3.out HB2.out.size, HB3.out⟩
  ·have hans : ansTB L a = ([], 0, false) := by unfold ansTB; rw [if_neg (fun h => hk h.2)]
   rw [hans]
   have HKD := aM (show decide (0 ≤ a ∧ a ≤ 60) = false from decide_eq_false hk)
   clear hr hc hg hk hans
   go_enter Try.func55, Try.ntmps55
   go_wp2_with (first | (go_at_call 58; go_loud ((with_reducible refine HG.out.mono ?_); rintro e w1 ⟨rfl, hb1⟩; have HB1 := aM hb1; clear hb1)) | (go_at_call 88; go_loud ((with_reducible refine (HWI.out _ false HKD.out).mono ?_); rintro e w2 ⟨rfl, hb2⟩; have HB2 := aM (below_step HB1.out hb2); clear hb2)))
   go_ret3
   exact ⟨_, rfl, Kd.R_nil _ _ _ _ _, HB2.out⟩
 ·have hans : ansTB L a = ([], 0, false) := by unfold ansTB; rw [if_neg (fun h => hg h.1)]
  rw [hans]
  rw [Bool.not_eq_true] at hg
  rw [hg] at HG
  clear hr hc hg hans
  go_enter Try.func55, Try.ntmps55
  go_wp2_with (go_at_call 58; go_loud ((with_reducible refine HG.out.mono ?_); rintro e w1 ⟨rfl, hb1⟩; have HB1 := aM hb1; clear hb1))
  go_ret3
  exact ⟨_, rfl, Kd.R_nil _ _ _ _ _, HB1.out⟩
end Go.Proofs.Ytaomjndfjmfelaa.TopB
end

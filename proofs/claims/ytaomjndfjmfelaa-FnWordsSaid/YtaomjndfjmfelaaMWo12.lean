/- Several texts in one: what the claim's last text rests on. No conditions. -/
import Derived.Test.YtaomjndfjmfelaaMWo5
import Derived.Test.YtaomjndfjmfelaaMWo10
import Derived.Test.YtaomjndfjmfelaaMWo9
section
namespace Go.Proofs.Ytaomjndfjmfelaa.GoodW
set_option linter.unusedVariables false
set_option linter.unusedSimpArgs false
open Go.RowKit Go.Proofs.Ytaomjndfjmfelaa.PQ Go.Proofs.YtaomjndfjmfelaaW.PrintWords Go.Proofs.YtaomjndfjmfelaaW.PrintLast Go.Proofs.Ytaomjndfjmfelaa.Pre Go.Proofs.Ytaomjndfjmfelaa.Posts Go.Proofs.Ytaomjndfjmfelaa.WordsW
abbrev En := S102
def okB (c : Int) : Bool := decide (small c ≠ 0 ∧ small c = c)
/-- A text is a word. -/
def isW (s : ByteArray) : Bool := decide (1 ≤ s.size ∧ s.size ≤ 20) && (bytesOf s).all okB
theorem isWord_ev (s : ByteArray) (hs : s.size ≤ 1048576) : Evt (fun k => impl_isWord.f k s) (isW s) := by
 unfold impl_isWord.f
 have key : ∀ (n i : Nat), i + n = s.size → Evt (fun k => impl_isWord.l0 k s (s.size : Int) (i : Int)) (decide (1 ≤ s.size ∧ s.size ≤ 20) && ((bytesOf s).drop i).all okB) := by
  intro n
  induction n with
  | zero =>
   intro i hi
   refine Evt.step (fun k => impl_isWord.l0.eq_2 _ _ _ k) (Evt.neg (by omega) ?_)
   rw [impl_within_ev, List.drop_of_length_le (by rw [bytesOf_length]; omega)]
   refine Evt.bsome ((Evt.const _).eq ?_)
   rw [List.all_nil, Bool.and_true]
   congr 1
   simp only [eq_iff_iff]
   omega
  | succ n ih =>
   intro i hi
   have hlt : i < (bytesOf s).length := by rw [bytesOf_length]; omega
   refine Evt.step (fun k => impl_isWord.l0.eq_2 _ _ _ k) (Evt.pos (by omega) (Evt.pos (by omega) (Evt.pos (by omega) (Evt.bind (small_ev _) ?_))))
   rw [w64 (n := (i : Int) + 1) (by omega) (by omega), List.drop_eq_getElem_cons hlt, List.all_cons]
   have e : (bytesOf s)[i] = bt s (i : Int) := Byt.bytesOf_get s i (by omega)
   rw [e]
   by_cases h0 : small (bt s (i : Int)) = 0
   ·refine Evt.pos h0 ((Evt.const _).eq ?_)
    rw [show okB (bt s (i : Int)) = false from decide_eq_false (fun h => h.1 h0)]
    simp
   ·refine Evt.neg h0 ?_
    by_cases h1 : small (bt s (i : Int)) = bt s (i : Int)
    ·refine Evt.pos h1 ((ih (i + 1) (by omega)).eq ?_)
     rw [show okB (bt s (i : Int)) = true from decide_eq_true ⟨h0, h1⟩, Bool.true_and]
    ·refine Evt.neg h1 ((Evt.const _).eq ?_)
     rw [show okB (bt s (i : Int)) = false from decide_eq_false (fun h => h1 h.2)]
     simp
 exact key s.size 0 (by omega)
theorem take_snoc (s : ByteArray) (i : Nat) (h : i < s.size) : (bytesOf s).take (i + 1) = (bytesOf s).take i ++ [bt s (i : Int)] := by
 rw [List.take_succ_eq_append_getElem (by rw [bytesOf_length]; exact h), Byt.bytesOf_get s i h]
theorem small_range (c : Int) (h : small c ≠ 0) : 0 ≤ small c ∧ small c < 256 := by
 unfold small at h ⊢
 split
 ·omega
 ·split
  ·omega
  ·rename_i h1 h2
   rw [if_neg h1, if_neg h2] at h
   exact absurd rfl h
theorem step_word (s : ByteArray) (h20 : s.size ≤ 20) (hall : (bytesOf s).all okB = true) : ∀ i, i ≤ s.size → stepW s i = ([], (bytesOf s).take i)
 | 0, _ => by rw [List.take_zero]; rfl
 | i + 1, hi => by
  have ih := step_word s h20 hall i (by omega)
  have hb : okB (bt s (i : Int)) = true := by
   rw [List.all_eq_true] at hall
   refine hall _ ?_
   rw [← Byt.bytesOf_get s i (by omega)]
   exact List.getElem_mem _
  have hb2 := of_decide_eq_true hb
  show stepC (small (bt s (i : Int))) (stepO (small (bt s (i : Int))) (stepW s i)) = _
  rw [ih, hb2.2]
  have hne : ¬ bt s (i : Int) = 0 := by rw [← hb2.2]; exact hb2.1
  unfold stepO
  rw [if_neg (by rintro (h | h); exact hne h; rw [List.length_take, bytesOf_length] at h; omega)]
  unfold stepC
  rw [if_neg hne, take_snoc s i (by omega)]
theorem flat_flush (o : List ByteArray) (w : List Int) (hw : ∀ c ∈ w, 0 ≤ c ∧ c < 256) : (flushO o w).flatMap bytesOf = o.flatMap bytesOf ++ w := by
 unfold flushO
 split
 ·rw [List.flatMap_append]
  simp [Byt.bytesOf_strOf w hw]
 ·rename_i h
  have : w = [] := List.eq_nil_of_length_eq_zero (by omega)
  simp [this]
theorem step_inv (s : ByteArray) : ∀ i, i ≤ s.size → (stepW s i).1.flatMap bytesOf ++ (stepW s i).2 = (((bytesOf s).take i).map small).filter (fun c => decide (c ≠ 0)) ∧ (∀ x ∈ (stepW s i).1, 1 ≤ x.size ∧ x.size ≤ 20) ∧ (stepW s i).2.length ≤ 20 ∧ ∀ c ∈ (stepW s i).2, 0 ≤ c ∧ c < 256
 | 0, _ => by
  refine ⟨rfl, ?_, ?_, ?_⟩
  ·intro x hx; cases hx
  ·show ([] : List Int).length ≤ 20; simp
  ·intro c hc; cases hc
 | i + 1, hi => by
  obtain ⟨h1, h2, h3, h4⟩ := step_inv s i (by omega)
  show (stepC (small (bt s (i : Int))) (stepO (small (bt s (i : Int))) (stepW s i))).1.flatMap bytesOf ++ (stepC (small (bt s (i : Int))) (stepO (small (bt s (i : Int))) (stepW s i))).2 = _ ∧ (∀ x ∈ (stepC (small (bt s (i : Int))) (stepO (small (bt s (i : Int))) (stepW s i))).1, 1 ≤ x.size ∧ x.size ≤ 20) ∧ (stepC (small (bt s (i : Int))) (stepO (small (bt s (i : Int))) (stepW s i))).2.length ≤ 20 ∧ ∀ c ∈ (stepC (small (bt s (i : Int))) (stepO (small (bt s (i : Int))) (stepW s i))).2, 0 ≤ c ∧ c < 256
  rw [take_snoc s i (by omega), List.map_append, List.filter_append, ← h1]
  obtain ⟨c, hc⟩ : ∃ c, c = small (bt s (i : Int)) := ⟨_, rfl⟩
  have hr := small_range (bt s (i : Int))
  rw [List.map_cons, List.map_nil, ← hc] at *
  generalize stepW s i = p at *
  obtain ⟨o, w⟩ := p
  have ho : ∀ o' w', stepO c (o, w) = (o', w') → o'.flatMap bytesOf ++ w' = o.flatMap bytesOf ++ w ∧ (∀ x ∈ o', 1 ≤ x.size ∧ x.size ≤ 20) ∧ w'.length ≤ 20 ∧ (c ≠ 0 → w'.length < 20) ∧ ∀ c ∈ w', 0 ≤ c ∧ c < 256 := by
   intro o' w' e
   unfold stepO at e
   split at e
   ·injection e with e1 e2
    subst e1 e2
    refine ⟨by rw [flat_flush o w h4, List.append_nil], ?_, by simp, by simp, by simp⟩
    intro x hx
    unfold flushO at hx
    split at hx
    ·rw [List.mem_append, List.mem_singleton] at hx
     rcases hx with hx | rfl
     ·exact h2 x hx
     ·rw [str_size]
      have : w.length ≤ 20 := h3
      omega
    ·exact h2 x hx
   ·rename_i hn
    injection e with e1 e2
    subst e1 e2
    refine ⟨rfl, h2, h3, fun h => ?_, h4⟩
    have : w.length ≤ 20 := h3
    have : ¬ w.length = 20 := fun h => hn (.inr h)
    omega
  generalize hso : stepO c (o, w) = q at *
  obtain ⟨o', w'⟩ := q
  obtain ⟨g1, g2, g3, g4, g5⟩ := ho o' w' rfl
  unfold stepC
  by_cases h0 : c = 0
  ·rw [if_pos h0]
   refine ⟨?_, g2, g3, g5⟩
   show o'.flatMap bytesOf ++ w' = o.flatMap bytesOf ++ w ++ _
   rw [g1, h0]
   simp
  ·rw [if_neg h0]
   refine ⟨?_, g2, ?_, ?_⟩
   ·show o'.flatMap bytesOf ++ (w' ++ [c]) = o.flatMap bytesOf ++ w ++ _
    rw [← List.append_assoc, g1]
    simp [h0]
   ·show (w' ++ [c]).length ≤ 20
    have := g4 h0
    simp
    omega
   ·intro y hy
    have hy : y ∈ w' ++ [c] := hy
    rw [List.mem_append, List.mem_singleton] at hy
    rcases hy with hy | rfl
    ·exact g5 y hy
    ·exact hr h0
theorem words_one (s : ByteArray) : wordsOf s = [s] ↔ isW s = true := by
 constructor
 ·intro h
  obtain ⟨h1, h2, h3, h4⟩ := step_inv s s.size (Nat.le_refl _)
  have hf := flat_flush (stepW s s.size).1 (stepW s s.size).2 h4
  rw [h1, show flushO (stepW s s.size).1 (stepW s s.size).2 = [s] from h, List.take_of_length_le (by rw [bytesOf_length]; exact Nat.le_refl _)] at hf
  have hf : bytesOf s = ((bytesOf s).map small).filter (fun c => decide (c ≠ 0)) := by simpa using hf
  have hlen : (((bytesOf s).map small).filter (fun c => decide (c ≠ 0))).length = ((bytesOf s).map small).length := by
   rw [← hf, List.length_map]
  have hall := List.length_filter_eq_length_iff.1 hlen
  have heq : ((bytesOf s).map small).filter (fun c => decide (c ≠ 0)) = (bytesOf s).map small := List.filter_eq_self.2 hall
  rw [heq] at hf
  have hsz : 1 ≤ s.size ∧ s.size ≤ 20 := by
   have hw : flushO (stepW s s.size).1 (stepW s s.size).2 = [s] := h
   unfold flushO at hw
   split at hw
   ·have hl := congrArg List.length hw
    rw [List.length_append] at hl
    have hnil : (stepW s s.size).1 = [] := List.eq_nil_of_length_eq_zero (by simpa using hl)
    rw [hnil] at hw
    have e : strOfNums (stepW s s.size).2 = s := by simpa using hw
    have e2 : (strOfNums (stepW s s.size).2).size = s.size := by rw [e]
    rw [str_size] at e2
    omega
   ·exact h2 s (by rw [hw]; simp)
  unfold isW
  rw [decide_eq_true hsz, Bool.true_and, List.all_eq_true]
  intro c hc
  obtain ⟨i, hi, rfl⟩ := List.getElem_of_mem hc
  have e1 : (bytesOf s)[i] = small (bytesOf s)[i] := by
   have e0 : (bytesOf s)[i]? = ((bytesOf s).map small)[i]? := by rw [← hf]
   rw [List.getElem?_map, List.getElem?_eq_getElem hi] at e0
   exact Option.some.inj e0
  have e2 := hall (small (bytesOf s)[i]) (List.mem_map.2 ⟨_, List.getElem_mem hi, rfl⟩)
  exact decide_eq_true ⟨by simpa using e2, e1.symm⟩
 ·intro h
  unfold isW at h
  rw [Bool.and_eq_true, decide_eq_true_eq] at h
  have hs := step_word s h.1.2 h.2 s.size (Nat.le_refl _)
  unfold wordsOf
  rw [hs, List.take_of_length_le (by rw [bytesOf_length]; exact Nat.le_refl _)]
  unfold flushO
  rw [if_pos (by rw [bytesOf_length]; omega), Byt.strOf_bytesOf]
  rfl
theorem l10Word_ev (s : ByteArray) (hs : s.size ≤ 1048576) : Evt (fun k => spec_l10Word.f k s) (isW s) := by
 unfold spec_l10Word.f
 refine Evt.bind (spec_words s hs) ?_
 have hw := words_one s
 have hb : isW s = decide (wordsOf s = [s]) := by
  by_cases h : isW s = true
  ·rw [h, decide_eq_true (hw.2 h)]
  ·rw [Bool.eq_false_iff.2 h, decide_eq_false (fun e => h (hw.1 e))]
 rw [hb]
 by_cases h1 : ((wordsOf s).length : Int) = 1
 ·refine Evt.pos h1 (Evt.pos (by omega) ((Evt.const _).eq ?_))
  obtain ⟨t, ht⟩ := List.length_eq_one_iff.1 (show (wordsOf s).length = 1 by omega)
  rw [ht]
  show (t.toList == s.toList) = decide ([t] = [s])
  by_cases e : t = s
  ·subst e
   simp
  ·rw [decide_eq_false (by simpa using e), beq_eq_false_iff_ne]
   exact fun h => e (Byt.toList_inj h)
 ·refine Evt.neg h1 ((Evt.const _).eq ?_)
  exact (decide_eq_false (fun e => h1 (by rw [e]; rfl))).symm
theorem l10List_ev (l : List Po) (hl : l.length ≤ 1048576) (x : Int) : Evt (fun k => spec_l10List.f k l x) (okFrom (wrap64 (x - 1)) (-1) l) := by
 unfold spec_l10List.f
 have h := spec_okW x (wrap64 (x - 1)) rfl l hl l.length 0 (-1) (by omega) (by simp) (by omega)
 rw [List.drop_zero] at h
 exact h
theorem postingsOK_ev (l : List Po) (hl : l.length ≤ 1048576) (most : Int) (hm : most < 9223372036854775807) : Evt (fun k => impl_postingsOK.f k l most) (okFrom most (-1) l) := by
 unfold impl_postingsOK.f
 have h := impl_ok most l hl l.length 0 (-1) (by omega) (by omega) (by omega) (fun p _ h => by omega)
 rw [List.drop_zero] at h
 exact h
/-- An entry is as it must be behind those before it. -/
def entOK (x : Int) (l : List En) (i : Nat) : Bool :=
 let e := rd_T102 l (i : Int)
 isW e.f0 && (decide (i = 0) || (let y := rd_T102 l ((i : Int) - 1); Op.bytesLess y.f0.toList e.f0.toList)) && !decide (e.f1.length = 0) && okFrom (wrap64 (x - 1)) (-1) e.f1
def goodW (x : Int) (l : List En) : Bool := decide (0 ≤ x ∧ x ≤ 40) && decide (l.length ≤ 200) && (List.range' 0 l.length).all (entOK x l)
theorem rd_en (l : List En) (i : Nat) (h : i < l.length) : rd_T102 l (i : Int) = l[i] := by
 unfold rd_T102
 rw [Int.toNat_natCast, List.getD_eq_getElem?_getD, List.getElem?_eq_getElem h]
 rfl
def Small (l : List En) : Prop := l.length ≤ 1048576 ∧ ∀ e ∈ l, e.f0.size ≤ 1048576 ∧ e.f1.length ≤ 1048576
theorem impl_l0 (x : Int) (hx : 0 ≤ x ∧ x ≤ 40) (l : List En) (hl : Small l) : ∀ n i : Nat, i + n = l.length → Evt (fun k => impl_GoodWords.l0 k l (l.length : Int) (i : Int) x l) ((List.range' i n).all (entOK x l)) := by
 intro n
 induction n with
 | zero =>
  intro i hi
  exact Evt.step (fun k => impl_GoodWords.l0.eq_2 _ _ _ _ _ k) (Evt.neg (by omega) (Evt.const _))
 | succ n ih =>
  intro i hi
  have hl1 := hl.1
  have hlt : i < l.length := by omega
  have ih := ih (i + 1) (by omega)
  obtain ⟨z1, z2⟩ := hl.2 l[i] (List.getElem_mem hlt)
  refine Evt.step (fun k => impl_GoodWords.l0.eq_2 _ _ _ _ _ k) (Evt.pos (by omega) (Evt.pos (by omega) (Evt.pos (by omega) ?_)))
  rw [List.range'_succ, List.all_cons]
  have hen : entOK x l i = (isW l[i].f0 && (decide (i = 0) || Op.bytesLess (rd_T102 l ((i : Int) - 1)).f0.toList l[i].f0.toList) && !decide (l[i].f1.length = 0) && okFrom (wrap64 (x - 1)) (-1) l[i].f1) := by
   unfold entOK
   simp only [rd_en l i hlt]
  rw [rd_en l i hlt, hen]
  refine Evt.bind (isWord_ev _ z1) ?_
  by_cases hw : isW l[i].f0 = true
  ·refine Evt.pos hw ?_
   rw [hw, Bool.true_and]
   have hrest : Evt (fun k => if ((l[i].f1).length : Int) = 0 then some false else (impl_postingsOK.f k l[i].f1 (wrap64 (x - 1))).bind fun t => if t = true then impl_GoodWords.l0 k l (l.length : Int) (wrap64 ((i : Int) + 1)) x l else some false) (!decide (l[i].f1.length = 0) && okFrom (wrap64 (x - 1)) (-1) l[i].f1 && (List.range' (i + 1) n).all (entOK x l)) := by
    by_cases hz : l[i].f1.length = 0
    ·refine Evt.pos (by omega) ((Evt.const _).eq ?_)
     rw [decide_eq_true hz]
     rfl
    ·refine Evt.neg (by omega) (Evt.bind (postingsOK_ev _ z2 _ (by rw [w64 (by omega) (by omega)]; omega)) ?_)
     rw [decide_eq_false hz, Bool.not_false, Bool.true_and]
     by_cases ho : okFrom (wrap64 (x - 1)) (-1) l[i].f1 = true
     ·refine Evt.pos ho ?_
      rw [ho, Bool.true_and, w64 (n := (i : Int) + 1) (by omega) (by omega)]
      exact ih
     ·refine Evt.neg ho ((Evt.const _).eq ?_)
      rw [Bool.eq_false_iff.2 ho]
      rfl
   by_cases h0 : i = 0
   ·refine Evt.neg (by omega) (hrest.eq ?_)
    rw [decide_eq_true h0, Bool.true_or, Bool.true_and]
   ·refine Evt.pos (by omega) ?_
    rw [w64 (n := (i : Int) - 1) (by omega) (by omega)]
    refine Evt.pos (by omega) (Evt.pos (by omega) ?_)
    rw [decide_eq_false h0, Bool.false_or]
    by_cases hb : Op.bytesLess (rd_T102 l ((i : Int) - 1)).f0.toList l[i].f0.toList = true
    ·refine Evt.pos hb (hrest.eq ?_)
     rw [hb, Bool.true_and]
    ·refine Evt.neg hb ((Evt.const _).eq ?_)
     rw [Bool.eq_false_iff.2 hb]
     rfl
  ·refine Evt.neg hw ((Evt.const _).eq ?_)
   rw [Bool.eq_false_iff.2 hw]
   rfl
theorem impl_ev (x : Int) (l : List En) (hl : Small l) : Evt (fun k => impl_GoodWords.f k x l) (goodW x l) := by
 unfold impl_GoodWords.f goodW
 have hl1 := hl.1
 rw [impl_within_ev]
 refine Evt.bsome ?_
 by_cases hx : 0 ≤ x ∧ x ≤ 40
 ·refine Evt.pos (decide_eq_true hx) (Evt.step (fun k => impl_GoodWords.j0.eq_2 _ _ _ k) ?_)
  rw [decide_eq_true hx, Bool.true_and]
  by_cases h2 : l.length ≤ 200
  ·refine Evt.neg (by rw [decide_eq_false (by omega)]; simp) ((impl_l0 x hx l hl l.length 0 (by omega)).eq ?_)
   rw [decide_eq_true h2, Bool.true_and]
  ·refine Evt.pos (decide_eq_true (by omega)) ((Evt.const _).eq ?_)
   rw [decide_eq_false h2]
   rfl
 ·refine Evt.neg (by rw [decide_eq_false hx]; simp) (Evt.step (fun k => impl_GoodWords.j0.eq_2 _ _ _ k) (Evt.pos rfl ((Evt.const _).eq ?_)))
  rw [decide_eq_false hx]
  rfl
theorem spec_l0 (x : Int) (l : List En) (hl : Small l) : ∀ n i : Nat, i + n = l.length → Evt (fun k => spec_GoodWords.l0 k l (l.length : Int) (i : Int) x l) ((List.range' i n).all (entOK x l) && (decide (0 ≤ x ∧ x ≤ 40) && decide (l.length ≤ 200))) := by
 intro n
 induction n with
 | zero =>
  intro i hi
  refine Evt.step (fun k => spec_GoodWords.l0.eq_2 _ _ _ _ _ k) (Evt.neg (by omega) ?_)
  rw [spec_in_ev, List.range'_zero, List.all_nil, Bool.true_and]
  refine Evt.bsome ?_
  by_cases hx : 0 ≤ x ∧ x ≤ 40
  ·refine Evt.pos (decide_eq_true hx) ((Evt.const _).eq ?_)
   rw [decide_eq_true hx, Bool.true_and]
   congr 1
   simp only [eq_iff_iff]
   omega
  ·refine Evt.neg (by rw [decide_eq_false hx]; simp) ((Evt.const _).eq ?_)
   rw [decide_eq_false hx]
   rfl
 | succ n ih =>
  intro i hi
  have hl1 := hl.1
  have hlt : i < l.length := by omega
  have ih := ih (i + 1) (by omega)
  obtain ⟨z1, z2⟩ := hl.2 l[i] (List.getElem_mem hlt)
  refine Evt.step (fun k => spec_GoodWords.l0.eq_2 _ _ _ _ _ k) (Evt.pos (by omega) (Evt.pos (by omega) (Evt.pos (by omega) ?_)))
  rw [List.range'_succ, List.all_cons]
  have hen : entOK x l i = (isW l[i].f0 && (decide (i = 0) || Op.bytesLess (rd_T102 l ((i : Int) - 1)).f0.toList l[i].f0.toList) && !decide (l[i].f1.length = 0) && okFrom (wrap64 (x - 1)) (-1) l[i].f1) := by
   unfold entOK
   simp only [rd_en l i hlt]
  rw [rd_en l i hlt, hen]
  refine Evt.bind (l10Word_ev _ z1) ?_
  by_cases hw : isW l[i].f0 = true
  ·refine Evt.pos hw ?_
   rw [hw, Bool.true_and]
   by_cases hz : l[i].f1.length = 0
   ·refine Evt.pos (by omega) ((Evt.const _).eq ?_)
    rw [decide_eq_true hz]
    simp
   ·refine Evt.neg (by omega) (Evt.bind (l10List_ev _ z2 x) ?_)
    rw [decide_eq_false hz, Bool.not_false, Bool.and_true]
    by_cases ho : okFrom (wrap64 (x - 1)) (-1) l[i].f1 = true
    ·refine Evt.pos ho ?_
     rw [ho, Bool.and_true]
     by_cases h0 : i = 0
     ·refine Evt.neg (by omega) ?_
      rw [decide_eq_true h0, Bool.true_or, Bool.true_and, w64 (n := (i : Int) + 1) (by omega) (by omega)]
      exact ih
     ·refine Evt.pos (by omega) ?_
      rw [w64 (n := (i : Int) - 1) (by omega) (by omega)]
      refine Evt.pos (by omega) (Evt.pos (by omega) ?_)
      rw [decide_eq_false h0, Bool.false_or]
      by_cases hb : Op.bytesLess (rd_T102 l ((i : Int) - 1)).f0.toList l[i].f0.toList = true
      ·refine Evt.pos hb ?_
       rw [hb, Bool.true_and, w64 (n := (i : Int) + 1) (by omega) (by omega)]
       exact ih
      ·refine Evt.neg hb ((Evt.const _).eq ?_)
       rw [Bool.eq_false_iff.2 hb]
       rfl
    ·refine Evt.neg ho ((Evt.const _).eq ?_)
     rw [Bool.eq_false_iff.2 ho]
     simp
  ·refine Evt.neg hw ((Evt.const _).eq ?_)
   rw [Bool.eq_false_iff.2 hw]
   rfl
theorem spec_ev (x : Int) (l : List En) (hl : Small l) : Evt (fun k => spec_GoodWords.f k x l) (goodW x l) := by
 unfold spec_GoodWords.f goodW
 refine (spec_l0 x l hl l.length 0 (by omega)).eq ?_
 rw [Bool.and_comm]
end Go.Proofs.Ytaomjndfjmfelaa.GoodW
end

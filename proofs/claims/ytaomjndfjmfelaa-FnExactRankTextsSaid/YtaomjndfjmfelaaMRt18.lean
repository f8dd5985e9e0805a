/- Several texts in one: what the claim's last text rests on. No conditions. -/
import Derived.Test.YtaomjndfjmfelaaMRt6
import Derived.Test.YtaomjndfjmfelaaMRt14
import Derived.Test.YtaomjndfjmfelaaMRt12
import Derived.Test.YtaomjndfjmfelaaMRt13
import Derived.Test.YtaomjndfjmfelaaMRt7
import Derived.Test.YtaomjndfjmfelaaMRt8
section
namespace Go.Proofs.Ytaomjndfjmfelaa.GoodW
set_option linter.unusedVariables false
set_option linter.unusedSimpArgs false
open Go.RowKit Go.Proofs.Ytaomjndfjmfelaa.PQ Go.Proofs.YtaomjndfjmfelaaW.PrintWords Go.Proofs.YtaomjndfjmfelaaW.PrintLast Go.Proofs.Ytaomjndfjmfelaa.Pre Go.Proofs.Ytaomjndfjmfelaa.Posts Go.Proofs.Ytaomjndfjmfelaa.WordsW
abbrev En := S102
def okB (c : Int) : Bool := decide (small c ≠ 0 ∧ small c = c)
/-- A text is a word. -/
def isW (s : ByteArray) : Bool := decide (1 ≤ s.size ∧ s.size ≤ 20) && (bytesOf s).all okB
theorem isWord_ev (s : ByteArray) (hs : s.size ≤ 1048576) : Evt (fun k => impl_isWord.f k s) (isW s) := by
 unfold impl_isWord.f
 have key : ∀ (n i : Nat), i + n = s.size → Evt (fun k => impl_isWord.l0 k s (s.size : Int) (i : Int)) (decide (1 ≤ s.size ∧ s.size ≤ 20) && ((bytesOf s).drop i).all okB) := by
  intro n
  induction n with
  | zero =>
   intro i hi
   refine Evt.step (fun k => impl_isWord.l0.eq_2 _ _ _ k) (Evt.neg (by omega) ?_)
   rw [impl_within_ev, List.drop_of_length_le (by rw [bytesOf_length]; omega)]
   refine Evt.bsome ((Evt.const _).eq ?_)
   rw [List.all_nil, Bool.and_true]
   congr 1
   simp only [eq_iff_iff]
   omega
  | succ n ih =>
   intro i hi
   have hlt : i < (bytesOf s).length := by rw [bytesOf_length]; omega
   refine Evt.step (fun k => impl_isWord.l0.eq_2 _ _ _ k) (Evt.pos (by omega) (Evt.pos (by omega) (Evt.pos (by omega) (Evt.bind (small_ev _) ?_))))
   rw [w64 (n := (i : Int) + 1) (by omega) (by omega), List.drop_eq_getElem_cons hlt, List.all_cons]
   have e : (bytesOf s)[i] = bt s (i : Int) := Byt.bytesOf_get s i (by omega)
   rw [e]
   by_cases h0 : small (bt s (i : Int)) = 0
   ·
    refine Evt.pos h0 ((Evt.const _).eq ?_)
    rw [show okB (bt s (i : Int)) = false from decide_eq_false (fun h => h.1 h0)]
    simp
   ·
    refine Evt.neg h0 ?_
    by_cases h1 : small (bt s (i : Int)) = bt s (i : Int)
    ·
     refine Evt.pos h1 ((ih (i + 1) (by omega)).eq ?_)
     rw [show okB (bt s (i : Int)) = true from decide_eq_true ⟨h0, h1⟩, Bool.true_and]
    ·
     refine Evt.neg h1 ((Evt.const _).eq ?_)
     rw [show okB (bt s (i : Int)) = false from decide_eq_false (fun h => h1 h.2)]
     simp
 exact key s.size 0 (by omega)
theorem take_snoc (s : ByteArray) (i : Nat) (h : i < s.size) : (bytesOf s).take (i + 1) = (bytesOf s).take i ++ [bt s (i : Int)] := by
 rw [List.take_succ_eq_append_getElem (by rw [bytesOf_length]; exact h), Byt.bytesOf_get s i h]
theorem small_range (c : Int) (h : small c ≠ 0) : 0 ≤ small c ∧ small c < 256 := by
 unfold small at h ⊢
 split
 ·
  omega
 ·
  split
  ·
   omega
  ·
   rename_i h1 h2
   rw [if_neg h1, if_neg h2] at h
   exact absurd rfl h
theorem step_word (s : ByteArray) (h20 : s.size ≤ 20) (hall : (bytesOf s).all okB = true) : ∀ i, i ≤ s.size → stepW s i = ([], (bytesOf s).take i)
 | 0, _ => by rw [List.take_zero]; rfl
 | i + 1, hi => by
  have ih := step_word s h20 hall i (by omega)
  have hb : okB (bt s (i : Int)) = true := by
   rw [List.all_eq_true] at hall
   refine hall _ ?_
   rw [← Byt.bytesOf_get s i (by omega)]
   exact List.getElem_mem _
  have hb2 := of_decide_eq_true hb
  show stepC (small (bt s (i : Int))) (stepO (small (bt s (i : Int))) (stepW s i)) = _
  rw [ih, hb2.2]
  have hne : ¬ bt s (i : Int) = 0 := by rw [← hb2.2]; exact hb2.1
  unfold stepO
  rw [if_neg (by rintro (h | h); exact hne h; rw [List.length_take, bytesOf_length] at h; omega)]
  unfold stepC
  rw [if_neg hne, take_snoc s i (by omega)]
theorem flat_flush (o : List ByteArray) (w : List Int) (hw : ∀ c ∈ w, 0 ≤ c ∧ c < 256) : (flushO o w).flatMap bytesOf = o.flatMap bytesOf ++ w := by
 unfold flushO
 split
 ·
  rw [List.flatMap_append]
  simp [Byt.bytesOf_strOf w hw]
 ·
  rename_i h
  have : w = [] := List.eq_nil_of_length_eq_zero (by omega)
  simp [this]
theorem step_inv (s : ByteArray) : ∀ i, i ≤ s.size → (stepW s i).1.flatMap bytesOf ++ (stepW s i).2 = (((bytesOf s).take i).map small).filter (fun c => decide (c ≠ 0)) ∧ (∀ x ∈ (stepW s i).1, 1 ≤ x.size ∧ x.size ≤ 20) ∧ (stepW s i).2.length ≤ 20 ∧ ∀ c ∈ (stepW s i).2, 0 ≤ c ∧ c < 256
 | 0, _ => by
  refine ⟨rfl, ?_, ?_, ?_⟩
  ·
   intro x hx; cases hx
  ·
   show ([] : List Int).length ≤ 20; simp
  ·
   intro c hc; cases hc
 | i + 1, hi => by
  obtain ⟨h1, h2, h3, h4⟩ := step_inv s i (by omega)
  show (stepC (small (bt s (i : Int))) (stepO (small (bt s (i : Int))) (stepW s i))).1.flatMap bytesOf ++ (stepC (small (bt s (i : Int))) (stepO (small (bt s (i : Int))) (stepW s i))).2 = _ ∧ (∀ x ∈ (stepC (small (bt s (i : Int))) (stepO (small (bt s (i : Int))) (stepW s i))).1, 1 ≤ x.size ∧ x.size ≤ 20) ∧ (stepC (small (bt s (i : Int))) (stepO (small (bt s (i : Int))) (stepW s i))).2.length ≤ 20 ∧ ∀ c ∈ (stepC (small (bt s (i : Int))) (stepO (small (bt s (i : Int))) (stepW s i))).2, 0 ≤ c ∧ c < 256
  rw [take_snoc s i (by omega), List.map_append, List.filter_append, ← h1]
  obtain ⟨c, hc⟩ : ∃ c, c = small (bt s (i : Int)) := ⟨_, rfl⟩
  have hr := small_range (bt s (i : Int))
  rw [List.map_cons, List.map_nil, ← hc] at *
  generalize stepW s i = p at *
  obtain ⟨o, w⟩ := p
  have ho : ∀ o' w', stepO c (o, w) = (o', w') → o'.flatMap bytesOf ++ w' = o.flatMap bytesOf ++ w ∧ (∀ x ∈ o', 1 ≤ x.size ∧ x.size ≤ 20) ∧ w'.length ≤ 20 ∧ (c ≠ 0 → w'.length < 20) ∧ ∀ c ∈ w', 0 ≤ c ∧ c < 256 := by
   intro o' w' e
   unfold stepO at e
   split at e
   ·
    injection e with e1 e2
    subst e1 e2
    refine ⟨by rw [flat_flush o w h4, List.append_nil], ?_, by simp, by simp, by simp⟩
    intro x hx
    unfold flushO at hx
    split at hx
    ·
     rw [List.mem_append, List.mem_singleton] at hx
     rcases hx with hx | rfl
     ·
      exact h2 x hx
     ·
      rw [str_size]
      have : w.length ≤ 20 := h3
      omega
    ·
     exact h2 x hx
   ·
    rename_i hn
    injection e with e1 e2
    subst e1 e2
    refine ⟨rfl, h2, h3, fun h => ?_, h4⟩
    have : w.length ≤ 20 := h3
    have : ¬ w.length = 20 := fun h => hn (.inr h)
    omega
  generalize hso : stepO c (o, w) = q at *
  obtain ⟨o', w'⟩ := q
  obtain ⟨g1, g2, g3, g4, g5⟩ := ho o' w' rfl
  unfold stepC
  by_cases h0 : c = 0
  ·
   rw [if_pos h0]
   refine ⟨?_, g2, g3, g5⟩
   show o'.flatMap bytesOf ++ w' = o.flatMap bytesOf ++ w ++ _
   rw [g1, h0]
   simp
  ·
   rw [if_neg h0]
   refine ⟨?_, g2, ?_, ?_⟩
   ·
    show o'.flatMap bytesOf ++ (w' ++ [c]) = o.flatMap bytesOf ++ w ++ _
    rw [← List.append_assoc, g1]
    simp [h0]
   ·
    show (w' ++ [c]).length ≤ 20
    have := g4 h0
    simp
    omega
   ·
    intro y hy
    have hy : y ∈ w' ++ [c] := hy
    rw [List.mem_append, List.mem_singleton] at hy
    rcases hy with hy | rfl
    ·
     exact g5 y hy
    ·
     exact hr h0
theorem words_one (s : ByteArray) : wordsOf s = [s] ↔ isW s = true := by
 constructor
 ·
  intro h
  obtain ⟨h1, h2, h3, h4⟩ := step_inv s s.size (Nat.le_refl _)
  have hf := flat_flush (stepW s s.size).1 (stepW s s.size).2 h4
  rw [h1, show flushO (stepW s s.size).1 (stepW s s.size).2 = [s] from h, List.take_of_length_le (by rw [bytesOf_length]; exact Nat.le_refl _)] at hf
  have hf : bytesOf s = ((bytesOf s).map small).filter (fun c => decide (c ≠ 0)) := by simpa using hf
  have hlen : (((bytesOf s).map small).filter (fun c => decide (c ≠ 0))).length = ((bytesOf s).map small).length := by
   rw [← hf, List.length_map]
  have hall := List.length_filter_eq_length_iff.1 hlen
  have heq : ((bytesOf s).map small).filter (fun c => decide (c ≠ 0)) = (bytesOf s).map small := List.filter_eq_self.2 hall
  rw [heq] at hf
  have hsz : 1 ≤ s.size ∧ s.size ≤ 20 := by
   have hw : flushO (stepW s s.size).1 (stepW s s.size).2 = [s] := h
   unfold flushO at hw
   split at hw
   ·
    have hl := congrArg List.length hw
    rw [List.length_append] at hl
    have hnil : (stepW s s.size).1 = [] := List.eq_nil_of_length_eq_zero (by simpa using hl)
    rw [hnil] at hw
    have e : strOfNums (stepW s s.size).2 = s := by simpa using hw
    have e2 : (strOfNums (stepW s s.size).2).size = s.size := by rw [e]
    rw [str_size] at e2
    omega
   ·
    exact h2 s (by rw [hw]; simp)
  unfold isW
  rw [decide_eq_true hsz, Bool.true_and, List.all_eq_true]
  intro c hc
  obtain ⟨i, hi, rfl⟩ := List.getElem_of_mem hc
  have e1 : (bytesOf s)[i] = small (bytesOf s)[i] := by
   have e0 : (bytesOf s)[i]? = ((bytesOf s).map small)[i]? := by rw [← hf]
   rw [List.getElem?_map, List.getElem?_eq_getElem hi] at e0
   exact Option.some.inj e0
  have e2 := hall (small (bytesOf s)[i]) (List.mem_map.2 ⟨_, List.getElem_mem hi, rfl⟩)
  exact decide_eq_true ⟨by simpa using e2, e1.symm⟩
 ·
  intro h
  unfold isW at h
  rw [Bool.and_eq_true, decide_eq_true_eq] at h
  have hs := step_word s h.1.2 h.2 s.size (Nat.le_refl _)
  unfold wordsOf
  rw [hs, List.take_of_length_le (by rw [bytesOf_length]; exact Nat.le_refl _)]
  unfold flushO
  rw [if_pos (by rw [bytesOf_length]; omega), Byt.strOf_bytesOf]
  rfl
theorem l10Word_ev (s : ByteArray) (hs : s.size ≤ 1048576) : Evt (fun k => spec_l10Word.f k s) (isW s) := by
 unfold spec_l10Word.f
 refine Evt.bind (spec_words s hs) ?_
 have hw := words_one s
 have hb : isW s = decide (wordsOf s = [s]) := by
  by_cases h : isW s = true
  ·
   rw [h, decide_eq_true (hw.2 h)]
  ·
   rw [Bool.eq_false_iff.2 h, decide_eq_false (fun e => h (hw.1 e))]
 rw [hb]
 by_cases h1 : ((wordsOf s).length : Int) = 1
 ·
  refine Evt.pos h1 (Evt.pos (by omega) ((Evt.const _).eq ?_))
  obtain ⟨t, ht⟩ := List.length_eq_one_iff.1 (show (wordsOf s).length = 1 by omega)
  rw [ht]
  show (t.toList == s.toList) = decide ([t] = [s])
  by_cases e : t = s
  ·
   subst e
   simp
  ·
   rw [decide_eq_false (by simpa using e), beq_eq_false_iff_ne]
   exact fun h => e (Byt.toList_inj h)
 ·
  refine Evt.neg h1 ((Evt.const _).eq ?_)
  exact (decide_eq_false (fun e => h1 (by rw [e]; rfl))).symm
theorem l10List_ev (l : List Po) (hl : l.length ≤ 1048576) (x : Int) : Evt (fun k => spec_l10List.f k l x) (okFrom (wrap64 (x - 1)) (-1) l) := by
 unfold spec_l10List.f
 have h := spec_okW x (wrap64 (x - 1)) rfl l hl l.length 0 (-1) (by omega) (by simp) (by omega)
 rw [List.drop_zero] at h
 exact h
theorem postingsOK_ev (l : List Po) (hl : l.length ≤ 1048576) (most : Int) (hm : most < 9223372036854775807) : Evt (fun k => impl_postingsOK.f k l most) (okFrom most (-1) l) := by
 unfold impl_postingsOK.f
 have h := impl_ok most l hl l.length 0 (-1) (by omega) (by omega) (by omega) (fun p _ h => by omega)
 rw [List.drop_zero] at h
 exact h
/-- An entry is as it must be behind those before it. -/
def entOK (x : Int) (l : List En) (i : Nat) : Bool :=
 let e := rd_T102 l (i : Int)
 isW e.f0 && (decide (i = 0) || (let y := rd_T102 l ((i : Int) - 1); Op.bytesLess y.f0.toList e.f0.toList)) && !decide (e.f1.length = 0) && okFrom (wrap64 (x - 1)) (-1) e.f1
def goodW (x : Int) (l : List En) : Bool := decide (0 ≤ x ∧ x ≤ 40) && decide (l.length ≤ 200) && (List.range' 0 l.length).all (entOK x l)
theorem rd_en (l : List En) (i : Nat) (h : i < l.length) : rd_T102 l (i : Int) = l[i] := by
 unfold rd_T102
 rw [Int.toNat_natCast, List.getD_eq_getElem?_getD, List.getElem?_eq_getElem h]
 rfl
def Small (l : List En) : Prop := l.length ≤ 1048576 ∧ ∀ e ∈ l, e.f0.size ≤ 1048576 ∧ e.f1.length ≤ 1048576
theorem impl_l0 (x : Int) (hx : 0 ≤ x ∧ x ≤ 40) (l : List En) (hl : Small l) : ∀ n i : Nat, i + n = l.length → Evt (fun k => impl_GoodWords.l0 k l (l.length : Int) (i : Int) x l) ((List.range' i n).all (entOK x l)) := by
 intro n
 induction n with
 | zero =>
  intro i hi
  exact Evt.step (fun k => impl_GoodWords.l0.eq_2 _ _ _ _ _ k) (Evt.neg (by omega) (Evt.const _))
 | succ n ih =>
  intro i hi
  have hl1 := hl.1
  have hlt : i < l.length := by omega
  have ih := ih (i + 1) (by omega)
  obtain ⟨z1, z2⟩ := hl.2 l[i] (List.getElem_mem hlt)
  refine Evt.step (fun k => impl_GoodWords.l0.eq_2 _ _ _ _ _ k) (Evt.pos (by omega) (Evt.pos (by omega) (Evt.pos (by omega) ?_)))
  rw [List.range'_succ, List.all_cons]
  have hen : entOK x l i = (isW l[i].f0 && (decide (i = 0) || Op.bytesLess (rd_T102 l ((i : Int) - 1)).f0.toList l[i].f0.toList) && !decide (l[i].f1.length = 0) && okFrom (wrap64 (x - 1)) (-1) l[i].f1) := by
   unfold entOK
   simp only [rd_en l i hlt]
  rw [rd_en l i hlt, hen]
  refine Evt.bind (isWord_ev _ z1) ?_
  by_cases hw : isW l[i].f0 = true
  ·
   refine Evt.pos hw ?_
   rw [hw, Bool.true_and]
   have hrest : Evt (fun k => if ((l[i].f1).length : Int) = 0 then some false else (impl_postingsOK.f k l[i].f1 (wrap64 (x - 1))).bind fun t => if t = true then impl_GoodWords.l0 k l (l.length : Int) (wrap64 ((i : Int) + 1)) x l else some false) (!decide (l[i].f1.length = 0) && okFrom (wrap64 (x - 1)) (-1) l[i].f1 && (List.range' (i + 1) n).all (entOK x l)) := by
    by_cases hz : l[i].f1.length = 0
    ·
     refine Evt.pos (by omega) ((Evt.const _).eq ?_)
     rw [decide_eq_true hz]
     rfl
    ·
     refine Evt.neg (by omega) (Evt.bind (postingsOK_ev _ z2 _ (by rw [w64 (by omega) (by omega)]; omega)) ?_)
     rw [decide_eq_false hz, Bool.not_false, Bool.true_and]
     by_cases ho : okFrom (wrap64 (x - 1)) (-1) l[i].f1 = true
     ·
      refine Evt.pos ho ?_
      rw [ho, Bool.true_and, w64 (n := (i : Int) + 1) (by omega) (by omega)]
      exact ih
     ·
      refine Evt.neg ho ((Evt.const _).eq ?_)
      rw [Bool.eq_false_iff.2 ho]
      rfl
   by_cases h0 : i = 0
   ·
    refine Evt.neg (by omega) (hrest.eq ?_)
    rw [decide_eq_true h0, Bool.true_or, Bool.true_and]
   ·
    refine Evt.pos (by omega) ?_
    rw [w64 (n := (i : Int) - 1) (by omega) (by omega)]
    refine Evt.pos (by omega) (Evt.pos (by omega) ?_)
    rw [decide_eq_false h0, Bool.false_or]
    by_cases hb : Op.bytesLess (rd_T102 l ((i : Int) - 1)).f0.toList l[i].f0.toList = true
    ·
     refine Evt.pos hb (hrest.eq ?_)
     rw [hb, Bool.true_and]
    ·
     refine Evt.neg hb ((Evt.const _).eq ?_)
     rw [Bool.eq_false_iff.2 hb]
     rfl
  ·
   refine Evt.neg hw ((Evt.const _).eq ?_)
   rw [Bool.eq_false_iff.2 hw]
   rfl
theorem impl_ev (x : Int) (l : List En) (hl : Small l) : Evt (fun k => impl_GoodWords.f k x l) (goodW x l) := by
 unfold impl_GoodWords.f goodW
 have hl1 := hl.1
 rw [impl_within_ev]
 refine Evt.bsome ?_
 by_cases hx : 0 ≤ x ∧ x ≤ 40
 ·
  refine Evt.pos (decide_eq_true hx) (Evt.step (fun k => impl_GoodWords.j0.eq_2 _ _ _ k) ?_)
  rw [decide_eq_true hx, Bool.true_and]
  by_cases h2 : l.length ≤ 200
  ·
   refine Evt.neg (by rw [decide_eq_false (by omega)]; simp) ((impl_l0 x hx l hl l.length 0 (by omega)).eq ?_)
   rw [decide_eq_true h2, Bool.true_and]
  ·
   refine Evt.pos (decide_eq_true (by omega)) ((Evt.const _).eq ?_)
   rw [decide_eq_false h2]
   rfl
 ·
  refine Evt.neg (by rw [decide_eq_false hx]; simp) (Evt.step (fun k => impl_GoodWords.j0.eq_2 _ _ _ k) (Evt.pos rfl ((Evt.const _).eq ?_)))
  rw [decide_eq_false hx]
  rfl
theorem spec_l0 (x : Int) (l : List En) (hl : Small l) : ∀ n i : Nat, i + n = l.length → Evt (fun k => spec_GoodWords.l0 k l (l.length : Int) (i : Int) x l) ((List.range' i n).all (entOK x l) && (decide (0 ≤ x ∧ x ≤ 40) && decide (l.length ≤ 200))) := by
 intro n
 induction n with
 | zero =>
  intro i hi
  refine Evt.step (fun k => spec_GoodWords.l0.eq_2 _ _ _ _ _ k) (Evt.neg (by omega) ?_)
  rw [spec_in_ev, List.range'_zero, List.all_nil, Bool.true_and]
  refine Evt.bsome ?_
  by_cases hx : 0 ≤ x ∧ x ≤ 40
  ·
   refine Evt.pos (decide_eq_true hx) ((Evt.const _).eq ?_)
   rw [decide_eq_true hx, Bool.true_and]
   congr 1
   simp only [eq_iff_iff]
   omega
  ·
   refine Evt.neg (by rw [decide_eq_false hx]; simp) ((Evt.const _).eq ?_)
   rw [decide_eq_false hx]
   rfl
 | succ n ih =>
  intro i hi
  have hl1 := hl.1
  have hlt : i < l.length := by omega
  have ih := ih (i + 1) (by omega)
  obtain ⟨z1, z2⟩ := hl.2 l[i] (List.getElem_mem hlt)
  refine Evt.step (fun k => spec_GoodWords.l0.eq_2 _ _ _ _ _ k) (Evt.pos (by omega) (Evt.pos (by omega) (Evt.pos (by omega) ?_)))
  rw [List.range'_succ, List.all_cons]
  have hen : entOK x l i = (isW l[i].f0 && (decide (i = 0) || Op.bytesLess (rd_T102 l ((i : Int) - 1)).f0.toList l[i].f0.toList) && !decide (l[i].f1.length = 0) && okFrom (wrap64 (x - 1)) (-1) l[i].f1) := by
   unfold entOK
   simp only [rd_en l i hlt]
  rw [rd_en l i hlt, hen]
  refine Evt.bind (l10Word_ev _ z1) ?_
  by_cases hw : isW l[i].f0 = true
  ·
   refine Evt.pos hw ?_
   rw [hw, Bool.true_and]
   by_cases hz : l[i].f1.length = 0
   ·
    refine Evt.pos (by omega) ((Evt.const _).eq ?_)
    rw [decide_eq_true hz]
    simp
   ·
    refine Evt.neg (by omega) (Evt.bind (l10List_ev _ z2 x) ?_)
    rw [decide_eq_false hz, Bool.not_false, Bool.and_true]
    by_cases ho : okFrom (wrap64 (x - 1)) (-1) l[i].f1 = true
    ·
     refine Evt.pos ho ?_
     rw [ho, Bool.and_true]
     by_cases h0 : i = 0
     ·
      refine Evt.neg (by omega) ?_
      rw [decide_eq_true h0, Bool.true_or, Bool.true_and, w64 (n := (i : Int) + 1) (by omega) (by omega)]
      exact ih
     ·
      refine Evt.pos (by omega) ?_
      rw [w64 (n := (i : Int) - 1) (by omega) (by omega)]
      refine Evt.pos (by omega) (Evt.pos (by omega) ?_)
      rw [decide_eq_false h0, Bool.false_or]
      by_cases hb : Op.bytesLess (rd_T102 l ((i : Int) - 1)).f0.toList l[i].f0.toList = true
      ·
       refine Evt.pos hb ?_
       rw [hb, Bool.true_and, w64 (n := (i : Int) + 1) (by omega) (by omega)]
       exact ih
      ·
       refine Evt.neg hb ((Evt.const _).eq ?_)
       rw [Bool.eq_false_iff.2 hb]
       rfl
    ·
     refine Evt.neg ho ((Evt.const _).eq ?_)
     rw [Bool.eq_false_iff.2 ho]
     simp
  ·
   refine Evt.neg hw ((Evt.const _).eq ?_)
   rw [Bool.eq_false_iff.2 hw]
   rfl
theorem spec_ev (x : Int) (l : List En) (hl : Small l) : Evt (fun k => spec_GoodWords.f k x l) (goodW x l) := by
 unfold spec_GoodWords.f goodW
 refine (spec_l0 x l hl l.length 0 (by omega)).eq ?_
 rw [Bool.and_comm]
end Go.Proofs.Ytaomjndfjmfelaa.GoodW
end

section
namespace Go.Proofs.Ytaomjndfjmfelaa.MkE
set_option linter.unusedVariables false
set_option linter.unusedSimpArgs false
open Go.RowKit Go.Proofs.Ytaomjndfjmfelaa.PQ Go.Proofs.YtaomjndfjmfelaaW.PrintWords Go.Proofs.YtaomjndfjmfelaaW.PrintLast Go.Proofs.YtaomjndfjmfelaaW.PrintMore Go.Proofs.Ytaomjndfjmfelaa.Pre Go.Proofs.Ytaomjndfjmfelaa.Shp Go.Proofs.Ytaomjndfjmfelaa.MkP Go.Proofs.Ytaomjndfjmfelaa.GoodW
theorem ne_off (g j k : Nat) (h : j ≠ k) : (⟨g, j, none⟩ : Addr) ≠ ⟨g, k, none⟩ := fun e => by
 injection e with _ e _
 exact h e
theorem row_form {W : World} {e n sz : Nat} {v : Value} (h : Row W e n sz v) : ∃ A c, v = .slice A n c := by
 rcases h with ⟨rfl, rfl⟩ | ⟨g, cap, cur, rfl, _⟩
 ·
  exact ⟨_, _, rfl⟩
 ·
  exact ⟨_, _, rfl⟩
theorem row_size {W : World} {e n sz g cap : Nat} {cur : Array Value} (h : Row W e n sz (.slice (some ⟨g, 0, none⟩) n cap)) (hg : W.heap[g]? = some (.cells cur e (0, 0))) : n * sz ≤ cur.size := by
 rcases h with ⟨e1, _⟩ | ⟨g2, cap2, cur2, e1, h2, h3⟩
 ·
  cases e1
 ·
  injection e1 with e1 _ _
  injection e1 with e1
  injection e1 with e1 _ _
  subst e1
  rw [hg] at h2
  injection h2 with h2
  injection h2 with h2 _ _
  subst h2
  exact h3
/-- The rows inside an entry of a row of entries. -/
def RowsIn (S : Nat → Prop) (W : World) (g : Nat) (l : List En) : Prop := ∀ i (h : i < l.length), ∃ v, W.cell? ⟨g, i * 2 + 1, none⟩ = some v ∧ Row W 56 l[i].f1.length 2 v ∧ ∀ k, v.ownBlock = some k → S k ∧ k ≠ g
theorem rowsIn {W : World} {base g cap : Nat} {S : Nat → Prop} {l : List En} (h : Kd.R k102 102 W base S (.slice (some ⟨g, 0, none⟩) l.length cap) l) : RowsIn S W g l := by
 intro i hi
 obtain ⟨c, hcl, hM, hcc, _⟩ := Kd.R_elem h z102 (i : Int) (by omega) (by omega)
 rw [Int.toNat_natCast, List.getD_eq_getElem?_getD, List.getElem?_eq_getElem hi] at hM
 rw [Int.toNat_natCast] at hcc
 obtain ⟨v, rfl, hv⟩ := k102_openM hM
 refine ⟨v, hcc 1 _ rfl, Row.of_R hv, fun k hk => ?_⟩
 have := hv.1 k hk
 exact this
set_option maxHeartbeats 1000000 in
set_option maxRecDepth 100000 in
theorem mkE_calls (base : Nat) (S : Nat → Prop) (v : Value) (l : List En) (m : Nat) (W : World) (hR : Kd.R k102 102 W base S v l) (hl : Small l) (hm : m ≤ 1048576) :
  Calls Try.prog 75 #[v, .int .i64 (m : Int)] W fun e W' => (∃ r : Int, 0 ≤ r ∧ r ≤ 4398046511104 ∧ e = .returned (.int .i64 r)) ∧ Mk S W W' := by
 have HM := aM hm
 have HL := aM hl
 by_cases h0 : l.length = 0
 ·
  obtain ⟨A, c, rfl⟩ := Kd.R_slice hR
  rw [h0]
  clear hR hl hm
  go_enter Try.func75, Try.ntmps75
  go_wp2
  go_loopg [1, 5] 1 (fun kq v1 v5 w' => v1 = .int .i64 (m : Int) ∧ v5 = .int .i64 0 ∧ w' = W)
  case atStart => exact ⟨rfl, rfl, rfl⟩
  case round =>
   obtain ⟨rfl, rfl, rfl⟩ := hrel
   go_wp2
   go_ret
   have := HM.out
   exact ⟨⟨_, by omega, by omega, rfl⟩, Mk.refl _ _⟩
 ·
  obtain ⟨g, cap, rfl, hb0, hg0, cur, hg⟩ := Kd.R_form hR (by omega)
  have HI := aM (rowsIn hR)
  have HSg := aM (hR.1 g rfl)
  have hrow := Row.of_R hR
  have HZ : Aside0 (l.length * 2 ≤ cur.size) := ⟨row_size hrow hg⟩
  have HG := aM hg
  clear hR hl hm hg hrow hb0 hg0
  go_enter Try.func75, Try.ntmps75
  go_wp2
  go_loopg [1, 5] l.length (fun kq v1 v5 w' => ∃ (i z : Nat), v1 = .int .i64 (z : Int) ∧ Aside0 (z ≤ m + i * 2097153) ∧ v5 = .int .i64 (i : Int) ∧ i ≤ l.length ∧ kq = l.length - i ∧ Aside0 (Mk S W w') ∧ Aside0 (∀ j, w'.cell? ⟨g, j * 2 + 1, none⟩ = W.cell? ⟨g, j * 2 + 1, none⟩))
  case atStart => exact ⟨0, m, rfl, ⟨by omega⟩, rfl, by omega, by omega, ⟨Mk.refl _ _⟩, ⟨fun j => rfl⟩⟩
  case round =>
   obtain ⟨i, z, rfl, HZ2, rfl, hi, hk, HK, HQ⟩ := hrel
   by_cases hlt : i < l.length
   ·
    have HLT := aM hlt
    obtain ⟨v, hv, hvr, hvb⟩ := HI.out i hlt
    obtain ⟨n, hn⟩ : ∃ n, n = l[i].f1.length := ⟨_, rfl⟩
    rw [← hn] at hvr
    have HN : Aside0 (n ≤ 1048576) := ⟨by rw [hn]; exact (HL.out.2 _ (List.getElem_mem hlt)).2⟩
    have HZ3 : Aside0 (z ≤ 4398046511104) := ⟨by have := HZ2.out; have := HM.out; have := HL.out.1; have : i * 2097153 ≤ 1048576 * 2097153 := Nat.mul_le_mul_right _ (by omega); omega⟩
    have HV := aM hv
    have HVR := aM hvr
    have HVB := aM hvb
    obtain ⟨Av, cv, ev⟩ := row_form hvr
    subst ev
    clear hv hvr hvb hn
    obtain ⟨c1, h1, e1⟩ := HK.out.2.2 g cur _ HG.out
    have H1 := aM h1
    have E1 := aM e1
    clear h1 e1
    obtain ⟨kt, hkt⟩ := (Strs.mT_ev z (by have := HZ3.out; omega)).ex
    obtain ⟨tt, ht⟩ : ∃ tt, tt = Strs.mT z := ⟨_, rfl⟩
    rw [← ht] at hkt
    have HT := aM hkt
    clear hkt ht
    have p1 : (0 : Int) ≤ (i : Int) := by omega
    have q1 : (i : Int) < (l.length : Int) := by omega
    have hw1 : wrap64 ((z : Int) + 1) = (z : Int) + 1 := by have := HZ3.out; rw [w64 (by omega) (by omega)]
    have hw3 : wrap64 ((i : Int) + 1) = (i : Int) + 1 := by have := HL.out.1; rw [w64 (by omega) (by omega)]
    have hcast : (z : Int) + 1 = ((z + 1 : Nat) : Int) := by omega
    have HCA := aM hcast
    clear hcast
    go_wp2_with (first | (go_at_call 76; go_loud ((with_reducible refine (laws_markText.calls kt (z : Int) tt _ HT.out).mono ?_); rintro e w2 ⟨rfl, hb⟩; have HK1 := aM (HK.out.below hb); have h2 : w2.heap[g]? = some (.cells c1 102 (0, 0)) := (hb.block g (lt_of_some H1.out)).trans H1.out; obtain ⟨hx0, hf0⟩ := cell_at h2 (i * 2) (by rw [E1.out]; have := HZ.out; have := HLT.out; omega); have hx1 : (w2.setCell ⟨g, i * 2, none⟩ (.string tt)).cell? ⟨g, i * 2 + 1, none⟩ = some (.slice Av n cv) := (World.cell?_setCell_other _ _ _ _ (ne_off g _ _ (by omega))).trans ((hb.cell (lt_of_some H1.out)).trans ((HQ.out i).trans HV.out)); have HK2 := aM (HK1.out.setCell (j := i * 2) h2 HSg.out (.string tt)); have HQ2 : Aside0 (∀ j, (w2.setCell ⟨g, i * 2, none⟩ (.string tt)).cell? ⟨g, j * 2 + 1, none⟩ = W.cell? ⟨g, j * 2 + 1, none⟩) := ⟨fun j => (World.cell?_setCell_other _ _ _ _ (ne_off g _ _ (by omega))).trans ((hb.cell (lt_of_some H1.out)).trans (HQ.out j))⟩; have HVR2 := aM (HVR.out.shape HK2.out.2.2); have HGS := aM (lt_of_some (heap_setCell_same w2 g (i * 2) c1 _ (.string tt) h2)); clear h2 hb)) | (go_at_call 125; go_loud (rw [HCA.out]; (with_reducible refine (mk_Posting_calls (.slice Av n cv) n (z + 1) _ HVR2.out HN.out (by have := HZ3.out; omega)).mono ?_); rintro e w3 ⟨rfl, hm3⟩; have HK3 := aM (HK2.out.then_ hm3 (fun k hk => .inl (HVB.out k hk.symm).1)); have HQ3 : Aside0 (∀ j, w3.cell? ⟨g, j * 2 + 1, none⟩ = W.cell? ⟨g, j * 2 + 1, none⟩) := ⟨fun j => (World.cell?_of_block (hm3.2.1.2 g HGS.out (fun hk => (HVB.out g hk.symm).2 rfl))).trans (HQ2.out j)⟩; clear hm3)))
    go_roundg (l.length - (i + 1))
    case measure => have := HLT.out; omega
    case rel => exact ⟨i + 1, z + 1 + 2 * n, rfl, ⟨by have := HZ2.out; have := HN.out; omega⟩, by go_num, by have := HLT.out; omega, by omega, HK3, HQ3⟩
   ·
    obtain rfl : i = l.length := by omega
    go_wp2
    go_ret
    have h1 := HZ2.out
    have h2 := HM.out
    have h3 := HL.out.1
    have h4 : l.length * 2097153 ≤ 1048576 * 2097153 := Nat.mul_le_mul_right _ (by omega)
    exact ⟨⟨_, by omega, by omega, rfl⟩, HK.out⟩
theorem mkW_calls (base : Nat) (S : Nat → Prop) (x : Int) (v : Value) (l : List En) (m : Nat) (W : World) (hR : Kd.R k102 102 W base S v l) (hl : Small l) (hm : m ≤ 1048576) :
  Calls Try.prog 24 #[.agg #[.int .i64 x, v], .int .i64 (m : Int)] W fun e W' => (∃ r : Int, 0 ≤ r ∧ r ≤ 4398046511104 ∧ e = .returned (.int .i64 r)) ∧ Mk S W W' := by
 have HM := aM hm
 have HL := aM hl
 have HR := aM (Kd.R_alloc hR (.cells #[.int .i64 x, v] 33))
 have HW0 := aM ((Mk.refl S W).below (below_alloc (Below.refl W.heap.size W) (.cells #[.int .i64 x, v] 33)))
 obtain ⟨A, c, rfl⟩ := Kd.R_slice hR
 clear hR hl hm
 go_enter Try.func24, Try.ntmps24
 go_wp2_with (first | (go_at_call 75; go_loud ((with_reducible refine (mkE_calls base S _ l m _ HR.out HL.out HM.out).mono ?_); rintro e w2 ⟨⟨r, hr0, hr1, rfl⟩, hk⟩; have HK := aM (HW0.out.then_ hk (fun k hk => .inl hk)); clear hk)))
 go_ret
 exact ⟨⟨r, hr0, hr1, rfl⟩, HK.out⟩
end Go.Proofs.Ytaomjndfjmfelaa.MkE
end

section
namespace Go.Proofs.Ytaomjndfjmfelaa.EntT
set_option linter.unusedVariables false
set_option linter.unusedSimpArgs false
open Go.RowKit Go.Proofs.Ytaomjndfjmfelaa.PQ Go.Proofs.YtaomjndfjmfelaaW.PrintWords Go.Proofs.YtaomjndfjmfelaaW.PrintLast Go.Proofs.Ytaomjndfjmfelaa.Pre Go.Proofs.Ytaomjndfjmfelaa.Posts Go.Proofs.Ytaomjndfjmfelaa.GoodW
abbrev Pl := S182
abbrev El := S140
def cvP (x : Pl) : Po := ⟨x.f0, x.f1⟩
def cvE (x : El) : En := ⟨x.f0, x.f1.map cvP⟩
theorem toP_ev (l : List Pl) (hl : l.length ≤ 1048576) : Evt (fun k => laws_toPostingS.f k l) (l.map cvP) := by
 unfold laws_toPostingS.f
 refine Evt.pos (by omega) (Evt.pos (by omega) ?_)
 have h := fill (L := fun k acc i => laws_toPostingS.l0 k l acc i) (f := fun i => cvP (l.getD i z182)) (n := l.length) ?_ ?_ (List.replicate ((l.length : Int)).toNat z56) (by simp)
 ·
  rw [map_range] at h
  exact h
 ·
  intro acc ha
  refine Evt.step (fun k => laws_toPostingS.l0.eq_2 _ _ _ k) (Evt.neg (by omega) (Evt.const _))
 ·
  intro acc i r hi ha hr
  refine Evt.step (fun k => laws_toPostingS.l0.eq_2 _ _ _ k) (Evt.pos (by omega) (Evt.pos (by omega) ?_))
  unfold laws_toPosting.f
  refine Evt.bsome (Evt.pos (by omega) ?_)
  rw [w64 (n := (i : Int) + 1) (by omega) (by omega)]
  exact hr
theorem rd_El (l : List El) (i : Nat) (h : i < l.length) : rd_T140 l (i : Int) = l[i] := by
 unfold rd_T140
 rw [Int.toNat_natCast, List.getD_eq_getElem?_getD, List.getElem?_eq_getElem h]
 rfl
theorem toE_ev (l : List El) (hl : l.length ≤ 1048576) (hx : ∀ x ∈ l, x.f1.length ≤ 1048576) : Evt (fun k => laws_toEntryS.f k l) (l.map cvE) := by
 unfold laws_toEntryS.f
 refine Evt.pos (by omega) (Evt.pos (by omega) ?_)
 have h := fill (L := fun k acc i => laws_toEntryS.l0 k l acc i) (f := fun i => cvE (l.getD i z140)) (n := l.length) ?_ ?_ (List.replicate ((l.length : Int)).toNat z102) (by simp)
 ·
  rw [map_range] at h
  exact h
 ·
  intro acc ha
  refine Evt.step (fun k => laws_toEntryS.l0.eq_2 _ _ _ k) (Evt.neg (by omega) (Evt.const _))
 ·
  intro acc i r hi ha hr
  refine Evt.step (fun k => laws_toEntryS.l0.eq_2 _ _ _ k) (Evt.pos (by omega) (Evt.pos (by omega) ?_))
  rw [rd_El l i hi]
  unfold laws_toEntry.f
  refine Evt.bind (a := (l[i].f0, l[i].f1.map cvP)) (Evt.bind (toP_ev l[i].f1 (hx _ (List.getElem_mem _))) (Evt.const _)) (Evt.pos (by omega) ?_)
  rw [w64 (n := (i : Int) + 1) (by omega) (by omega)]
  have e : l.getD i z140 = l[i] := by
   rw [List.getD_eq_getElem?_getD, List.getElem?_eq_getElem hi]
   rfl
  simp only [e] at hr
  exact hr
theorem to_ev (x : Int) (l : List El) (hl : l.length ≤ 1048576) (hx : ∀ x ∈ l, x.f1.length ≤ 1048576) : Evt (fun k => laws_toWords.f k x l) (x, l.map cvE) := by
 unfold laws_toWords.f
 exact Evt.bind (toE_ev l hl hx) (Evt.const _)
theorem eqP_ev (a : List Po) (ha : a.length ≤ 1048576) : Evt (fun k => laws_eqPostingS.f k a a) true := by
 unfold laws_eqPostingS.f
 refine Evt.pos rfl ?_
 have key : ∀ (m i : Nat), i + m = a.length → Evt (fun k => laws_eqPostingS.l0 k a a (i : Int)) true := by
  intro m
  induction m with
  | zero => intro i hi; exact Evt.step (fun k => laws_eqPostingS.l0.eq_2 _ _ _ k) (Evt.neg (by omega) (Evt.const _))
  | succ m ih =>
   intro i hi
   refine Evt.step (fun k => laws_eqPostingS.l0.eq_2 _ _ _ k) (Evt.pos (by omega) (Evt.pos (by omega) (Evt.pos (by omega) ?_)))
   have e : ∀ x y : Int, laws_eqPosting.f x y x y = some true := fun x y => by unfold laws_eqPosting.f; simp
   rw [e]
   refine Evt.bsome (Evt.pos rfl ?_)
   rw [w64 (n := (i : Int) + 1) (by omega) (by omega)]
   exact ih (i + 1) (by omega)
 exact key a.length 0 (by omega)
theorem eqE_ev (a : List En) (ha : Small a) : Evt (fun k => laws_eqEntryS.f k a a) true := by
 have ha1 := ha.1
 unfold laws_eqEntryS.f
 refine Evt.pos rfl ?_
 have key : ∀ (m i : Nat), i + m = a.length → Evt (fun k => laws_eqEntryS.l0 k a a (i : Int)) true := by
  intro m
  induction m with
  | zero => intro i hi; exact Evt.step (fun k => laws_eqEntryS.l0.eq_2 _ _ _ k) (Evt.neg (by omega) (Evt.const _))
  | succ m ih =>
   intro i hi
   have hi2 : i < a.length := by omega
   refine Evt.step (fun k => laws_eqEntryS.l0.eq_2 _ _ _ k) (Evt.pos (by omega) (Evt.pos (by omega) (Evt.pos (by omega) ?_)))
   rw [rd_en a i hi2]
   unfold laws_eqEntry.f
   refine Evt.bind (a := true) (Evt.pos rfl (Evt.bind (eqP_ev a[i].f1 (ha.2 _ (List.getElem_mem _)).2) (Evt.pos rfl (Evt.const _)))) (Evt.pos rfl ?_)
   rw [w64 (n := (i : Int) + 1) (by omega) (by omega)]
   exact ih (i + 1) (by omega)
 exact key a.length 0 (by omega)
theorem eq_ev (x : Int) (a : List En) (ha : Small a) : Evt (fun k => laws_eqWords.f k x a x a) true := by
 unfold laws_eqWords.f
 exact Evt.pos rfl (Evt.bind (eqE_ev a ha) (Evt.pos rfl (Evt.const _)))
theorem sz_one (y : El) (h2 : y.f0.size ≤ 9223372036854775807) (hx : y.f1.length ≤ 9223372036854775807) (a : Int) (h0 : 0 ≤ a) (h1 : a ≤ 1048576) : laws_szEntry.f y.f0 y.f1 a = some (if a < y.f0.size + y.f1.length then -1 else a - y.f0.size - y.f1.length) := by
 unfold laws_szEntry.f laws_szPostingS.f
 rw [w64 (n := a - (y.f0.size : Int)) (by omega) (by omega)]
 by_cases hs : a - (y.f0.size : Int) < 0
 ·
  rw [if_pos hs, if_pos (by omega)]
 ·
  rw [if_neg hs, w64 (n := a - (y.f0.size : Int) - (y.f1.length : Int)) (by omega) (by omega)]
  by_cases h : a < y.f0.size + y.f1.length
  ·
   rw [if_pos (by omega), if_pos h]
   rfl
  ·
   rw [if_neg (by omega), if_neg h]
   show (if a - (y.f0.size : Int) - (y.f1.length : Int) < 0 then some (-1) else some (a - (y.f0.size : Int) - (y.f1.length : Int))) = _
   rw [if_neg (by omega)]
def SmallL (l : List El) : Prop := l.length ≤ 1048576 ∧ ∀ x ∈ l, x.f0.size ≤ 1048576 ∧ x.f1.length ≤ 1048576
/-- What came in is small, or the count falls below zero. -/
theorem sz_ev2 (t : Int) (l : List El) (hl : l.length ≤ 9223372036854775807) (hx : ∀ x ∈ l, x.f0.size ≤ 9223372036854775807 ∧ x.f1.length ≤ 9223372036854775807) (c : Int) (hc0 : 0 ≤ c) (hc1 : c ≤ 1048576) :
  ∃ r : Int, Evt (fun k => laws_szWords.f k t l c) r ∧ (0 ≤ r → SmallL l) ∧ r ≤ 1048576 := by
 have h : ∃ r : Int, Evt (fun k => laws_szEntryS.f k l c) r ∧ (0 ≤ r → SmallL l) ∧ r ≤ 1048576 := by
  unfold laws_szEntryS.f
  rw [w64 (n := c - (l.length : Int)) (by omega) (by omega)]
  by_cases hbig : (l.length : Int) ≤ c
  ·
   have key : ∀ (m i : Nat) (a : Int), i + m = l.length → 0 ≤ a → a ≤ 1048576 → (∀ x ∈ l.take i, x.f0.size ≤ 1048576 ∧ x.f1.length ≤ 1048576) → ∃ r : Int, Evt (fun k => laws_szEntryS.l0 k l a (i : Int)) r ∧ (0 ≤ r → SmallL l) ∧ r ≤ 1048576 := by
    intro m
    induction m with
    | zero =>
     intro i a hi h0 h1 ht
     refine ⟨a, Evt.step (fun k => laws_szEntryS.l0.eq_2 _ _ _ k) (Evt.neg (by omega) (Evt.const _)), fun _ => ⟨by omega, ?_⟩, h1⟩
     rwa [List.take_of_length_le (by omega)] at ht
    | succ m ih =>
     intro i a hi h0 h1 ht
     have hi2 : i < l.length := by omega
     have hm := hx _ (List.getElem_mem hi2)
     have hone := sz_one l[i] hm.1 hm.2 a h0 h1
     by_cases hlt : a < l[i].f0.size + l[i].f1.length
     ·
      refine ⟨-1, Evt.step (fun k => laws_szEntryS.l0.eq_2 _ _ _ k) (Evt.pos (by omega) (Evt.pos (by omega) ?_)), fun h => by omega, by omega⟩
      rw [rd_El l i hi2, hone, if_pos hlt]
      exact Evt.bsome (Evt.pos (by omega) (Evt.const _))
     ·
      obtain ⟨r, hr, hb⟩ := ih (i + 1) (a - l[i].f0.size - l[i].f1.length) (by omega) (by omega) (by omega) (by
       intro x hxm
       rw [List.take_succ_eq_append_getElem hi2, List.mem_append, List.mem_singleton] at hxm
       rcases hxm with hxm | rfl
       ·
        exact ht x hxm
       ·
        omega)
      refine ⟨r, Evt.step (fun k => laws_szEntryS.l0.eq_2 _ _ _ k) (Evt.pos (by omega) (Evt.pos (by omega) ?_)), hb⟩
      rw [rd_El l i hi2, hone, if_neg hlt, w64 (n := (i : Int) + 1) (by omega) (by omega)]
      exact Evt.bsome (Evt.neg (by omega) hr)
   obtain ⟨r, hr, hb⟩ := key l.length 0 (c - (l.length : Int)) (by omega) (by omega) (by omega) (by simp)
   exact ⟨r, Evt.neg (by omega) hr, hb⟩
  ·
   exact ⟨-1, Evt.pos (by omega) (Evt.const _), fun h => by omega, by omega⟩
 obtain ⟨r, hr, hb⟩ := h
 unfold laws_szWords.f
 by_cases hneg : r < 0
 ·
  exact ⟨-1, Evt.bind hr (Evt.pos hneg (Evt.const _)), fun h => by omega, by omega⟩
 ·
  exact ⟨r, Evt.bind hr (Evt.neg hneg (Evt.const _)), hb⟩
theorem map_small (l : List El) (h : SmallL l) : Small (l.map cvE) := by
 refine ⟨by rw [List.length_map]; exact h.1, fun x hm => ?_⟩
 rw [List.mem_map] at hm
 obtain ⟨y, hy, rfl⟩ := hm
 show y.f0.size ≤ 1048576 ∧ (y.f1.map cvP).length ≤ 1048576
 rw [List.length_map]
 exact h.2 y hy
end Go.Proofs.Ytaomjndfjmfelaa.EntT
end

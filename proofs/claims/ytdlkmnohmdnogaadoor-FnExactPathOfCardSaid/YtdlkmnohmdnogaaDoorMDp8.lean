/- Several texts in one: what the claim's last text rests on. No conditions. -/
import Derived.Test.YtdlkmnohmdnogaaDoorMDp7
import Derived.Test.YtdlkmnohmdnogaaDoorMDp0
import Derived.Test.YtdlkmnohmdnogaaDoorMDp6
section
namespace Go.Proofs.YtdlkmnohmdnogaaDoor.PtS
set_option linter.unusedVariables false
set_option linter.unusedSimpArgs false
open Go.RowKit Go.Proofs.YtdlkmnohmdnogaaDoor.PQ Go.Proofs.YtdlkmnohmdnogaaDoorW.PrintWords Go.Proofs.YtdlkmnohmdnogaaDoorW.PrintLast Go.Proofs.YtdlkmnohmdnogaaDoor.Pre Go.Proofs.YtdlkmnohmdnogaaDoor.Esc
def okb (b : UInt8) : Bool := decide (32 ≤ b.toNat ∧ b.toNat ≤ 126)
/-- A text that may be a name. -/
def okS (s : ByteArray) : Bool := s.data.toList.all okb && decide (s.size ≤ 24)
theorem bt_at (s : ByteArray) (i : Nat) (h : i < s.size) : bt s (i : Int) = ((s.data.toList[i]'h).toNat : Int) := by
 rw [← Byt.bytesOf_get s i h]
 simp [bytesOf]
theorem printed_ev (s : ByteArray) (hs : s.size ≤ 1048576) : Evt (fun k => spec_l1Printed.f k s) (okS s) := by
 unfold spec_l1Printed.f
 have key : ∀ (m i : Nat), i + m = s.size → Evt (fun k => spec_l1Printed.l0 k s (i : Int)) ((s.data.toList.drop i).all okb && decide (s.size ≤ 24)) := by
  intro m
  induction m with
  | zero =>
   intro i hi
   refine Evt.step (fun k => spec_l1Printed.l0.eq_2 _ _ k) (Evt.neg (by omega) ((Evt.const _).eq ?_))
   rw [List.drop_eq_nil_of_le (by show s.data.size ≤ i; have : s.data.size = s.size := rfl; omega), List.all_nil, Bool.true_and]
   exact decide_eq_decide.2 (by omega)
  | succ m ih =>
   intro i hi
   have hlt : i < s.size := by omega
   refine Evt.step (fun k => spec_l1Printed.l0.eq_2 _ _ k) (Evt.pos (by omega) (Evt.pos (by omega) ?_))
   rw [w64 (n := (i : Int) + 1) (by omega) (by omega), bt_at s i hlt, List.drop_eq_getElem_cons (show i < s.data.toList.length from hlt), List.all_cons]
   obtain ⟨c, hc⟩ : ∃ c, c = s.data.toList[i]'hlt := ⟨_, rfl⟩
   rw [← hc]
   by_cases h1 : ((c.toNat : Nat) : Int) < 32
   ·refine Evt.pos h1 ((Evt.const _).eq ?_)
    have : okb c = false := decide_eq_false (by omega)
    rw [this]
    rfl
   ·by_cases h2 : ((c.toNat : Nat) : Int) > 126
    ·refine Evt.neg h1 (Evt.pos h2 ((Evt.const _).eq ?_))
     have : okb c = false := decide_eq_false (by omega)
     rw [this]
     rfl
    ·refine Evt.neg h1 (Evt.neg h2 ((ih (i + 1) (by omega)).eq ?_))
     have : okb c = true := decide_eq_true (by omega)
     rw [this, Bool.true_and]
 exact key s.size 0 (by omega)
theorem stringOK_ev (s : ByteArray) (hs : s.size ≤ 1048576) : Evt (fun k => impl_stringOK.f k s) (okS s) := by
 unfold impl_stringOK.f okS
 by_cases h : (s.size : Int) > 24
 ·refine Evt.pos h ((Evt.const _).eq ?_)
  rw [decide_eq_false (show ¬ s.size ≤ 24 by omega), Bool.and_false]
 ·have key : ∀ (m i : Nat), i + m = s.size → Evt (fun k => impl_stringOK.l0 k s (s.size : Int) (i : Int)) ((s.data.toList.drop i).all okb) := by
   intro m
   induction m with
   | zero =>
    intro i hi
    refine Evt.step (fun k => impl_stringOK.l0.eq_2 _ _ _ k) (Evt.neg (by omega) ((Evt.const _).eq ?_))
    rw [List.drop_eq_nil_of_le (by show s.data.size ≤ i; have : s.data.size = s.size := rfl; omega), List.all_nil]
   | succ m ih =>
    intro i hi
    have hlt : i < s.size := by omega
    refine Evt.step (fun k => impl_stringOK.l0.eq_2 _ _ _ k) (Evt.pos (by omega) (Evt.pos (by omega) (Evt.pos (by omega) ?_)))
    rw [w64 (n := (i : Int) + 1) (by omega) (by omega), bt_at s i hlt, List.drop_eq_getElem_cons (show i < s.data.toList.length from hlt), List.all_cons]
    obtain ⟨c, hc⟩ : ∃ c, c = s.data.toList[i]'hlt := ⟨_, rfl⟩
    rw [← hc]
    by_cases h1 : ((c.toNat : Nat) : Int) < 32
    ·refine Evt.pos h1 ((Evt.const _).eq ?_)
     have : okb c = false := decide_eq_false (by omega)
     rw [this]
     rfl
    ·by_cases h2 : ((c.toNat : Nat) : Int) > 126
     ·refine Evt.neg h1 (Evt.pos h2 ((Evt.const _).eq ?_))
      have : okb c = false := decide_eq_false (by omega)
      rw [this]
      rfl
     ·refine Evt.neg h1 (Evt.neg h2 ((ih (i + 1) (by omega)).eq ?_))
      have : okb c = true := decide_eq_true (by omega)
      rw [this, Bool.true_and]
  rw [decide_eq_true (show s.size ≤ 24 by omega), Bool.and_true]
  exact Evt.neg h (key s.size 0 (by omega))

/-- A text of these bytes. -/
def mk (l : List UInt8) : ByteArray := ⟨l.toArray⟩
theorem mk_append (a b : List UInt8) : mk a ++ mk b = mk (a ++ b) := by
 apply ByteArray.ext
 show (mk a ++ mk b).data = _
 rw [ByteArray.data_append]
 show a.toArray ++ b.toArray = (a ++ b).toArray
 simp
theorem mk_size (l : List UInt8) : (mk l).size = l.length := by
 show l.toArray.size = _
 simp
end Go.Proofs.YtdlkmnohmdnogaaDoor.PtS
end

section
namespace Go.Proofs.YtdlkmnohmdnogaaDoor.Seg
set_option linter.unusedVariables false
open Go.Proofs.YtdlkmnohmdnogaaDoor.Esc Go.Proofs.YtdlkmnohmdnogaaDoor.Uns Go.Proofs.YtdlkmnohmdnogaaDoor.PtS
/-- Every mark of the part is one of the two. -/
def val : List UInt8 → Bool
 | [] => true
 | [c] => decide (c ≠ 126)
 | c :: d :: t => if c = 126 then (if d = 48 ∨ d = 49 then val t else false) else val (d :: t)
theorem eL_cons (c : UInt8) (l : List UInt8) : eL (c :: l) = e1 c ++ eL l := rfl
theorem val_eq : ∀ n (f : List UInt8), f.length ≤ n → 47 ∉ f → val f = decide (eL (un f) = f)
 | 0, f, h, _ => by
  obtain rfl : f = [] := List.eq_nil_of_length_eq_zero (by omega)
  rfl
 | n + 1, [], h, _ => rfl
 | n + 1, [c], h, hm => by
  have h47 : c ≠ 47 := fun e => hm (by rw [e]; exact List.mem_singleton.2 rfl)
  by_cases hc : c = 126
  ·subst hc
   rfl
  ·have e : eL (un [c]) = [c] := by
    show e1 c ++ eL [] = [c]
    unfold e1
    rw [if_neg h47, if_neg hc]
    rfl
   rw [val, decide_eq_true hc, decide_eq_true e]
 | n + 1, c :: d :: t, h, hm => by
  have h2 : t.length + 2 ≤ n + 1 := h
  have hc47 : c ≠ 47 := fun e => hm (by rw [e]; exact List.mem_cons_self ..)
  have hd : 47 ∉ d :: t := fun e => hm (List.mem_cons_of_mem _ e)
  have ht : 47 ∉ t := fun e => hd (List.mem_cons_of_mem _ e)
  rw [val, un]
  by_cases hc : c = 126
  ·subst hc
   rw [if_pos rfl]
   by_cases h48 : d = 48
   ·subst h48
    rw [if_pos (.inl rfl), if_pos ⟨rfl, rfl⟩, val_eq n t (by omega) ht]
    refine decide_eq_decide.2 ?_
    rw [eL_cons]
    show _ ↔ 126 :: 48 :: eL (un t) = 126 :: 48 :: t
    constructor
    ·intro e
     rw [e]
    ·intro e
     injection e with _ e
     injection e with _ e
   ·by_cases h49 : d = 49
    ·subst h49
     rw [if_pos (.inr rfl), if_neg (by decide), if_pos ⟨rfl, rfl⟩, val_eq n t (by omega) ht]
     refine decide_eq_decide.2 ?_
     rw [eL_cons]
     show _ ↔ 126 :: 49 :: eL (un t) = 126 :: 49 :: t
     constructor
     ·intro e
      rw [e]
     ·intro e
      injection e with _ e
      injection e with _ e
    ·rw [if_neg (fun e => e.elim h48 h49), if_neg (fun e => h48 e.2), if_neg (fun e => h49 e.2)]
     refine (decide_eq_false ?_).symm
     rw [eL_cons]
     show ¬ 126 :: 48 :: eL (un (d :: t)) = 126 :: d :: t
     intro e
     injection e with _ e
     injection e with e _
     exact h48 e.symm
  ·rw [if_neg hc, if_neg (fun e => hc e.1), if_neg (fun e => hc e.1), val_eq n (d :: t) (by simp only [List.length_cons]; omega) hd]
   refine decide_eq_decide.2 ?_
   have e : eL (c :: un (d :: t)) = c :: eL (un (d :: t)) := by
    rw [eL_cons]
    unfold e1
    rw [if_neg hc47, if_neg hc]
    rfl
   rw [e]
   constructor
   ·intro e
    rw [e]
   ·intro e
    injection e with _ e
/-- A text cut at each slash. -/
def fld : List UInt8 → List (List UInt8)
 | [] => [[]]
 | c :: l => if c = 47 then [] :: fld l else match fld l with
  | [] => [[c]]
  | f :: fs => (c :: f) :: fs
theorem fld_ne (l : List UInt8) : fld l ≠ [] := by
 cases l with
 | nil => simp [fld]
 | cons c l =>
  rw [fld]
  split
  ·simp
  ·cases fld l <;> simp
theorem fld_sep (l : List UInt8) : fld (47 :: l) = [] :: fld l := by rw [fld, if_pos rfl]
theorem fld_char (c : UInt8) (l : List UInt8) (h : c ≠ 47) : ∃ f fs, fld l = f :: fs ∧ fld (c :: l) = (c :: f) :: fs := by
 rw [fld, if_neg h]
 cases hl : fld l with
 | nil => exact absurd hl (fld_ne l)
 | cons f fs => exact ⟨f, fs, rfl, rfl⟩
theorem fld_no (l : List UInt8) : ∀ f ∈ fld l, 47 ∉ f := by
 induction l with
 | nil =>
  intro f hf
  rw [List.mem_singleton.1 hf]
  simp
 | cons c l ih =>
  intro f hf
  by_cases hc : c = 47
  ·subst hc
   rw [fld_sep] at hf
   rcases List.mem_cons.1 hf with rfl | hf
   ·simp
   ·exact ih f hf
  ·obtain ⟨g, gs, h1, h2⟩ := fld_char c l hc
   rw [h2] at hf
   rcases List.mem_cons.1 hf with rfl | hf
   ·intro hm
    rcases List.mem_cons.1 hm with e | hm
    ·exact hc e.symm
    ·exact ih g (by rw [h1]; exact List.mem_cons_self ..) hm
   ·exact ih f (by rw [h1]; exact List.mem_cons_of_mem _ hf)
/-- A text of these bytes is one part, and what is behind it. -/
theorem fld_len (l : List UInt8) : (fld l).length = l.count 47 + 1 := by
 induction l with
 | nil => rfl
 | cons c l ih =>
  by_cases hc : c = 47
  ·subst hc
   rw [fld_sep, List.length_cons, ih, List.count_cons_self]
  ·obtain ⟨g, gs, h1, h2⟩ := fld_char c l hc
   rw [h2, List.length_cons, List.count_cons_of_ne hc, ← ih, h1, List.length_cons]
/-- The names of parts; none where one of them is not right. -/
def pth : List (List UInt8) → List ByteArray → List ByteArray × Bool
 | [], out => (out, true)
 | f :: fs, out => if val f = true ∧ okS (mk (un f)) = true then pth fs (out ++ [mk (un f)]) else ([], false)
/-- What a path tells. -/
def ansPath (s : ByteArray) : List ByteArray × Bool :=
 if s.size > 60 then ([], false) else
 match s.data.toList with
 | [] => ([], true)
 | c :: l => if c = 47 then pth (fld l) [] else ([], false)
end Go.Proofs.YtdlkmnohmdnogaaDoor.Seg
end

section
namespace Go.Proofs.YtdlkmnohmdnogaaDoor.PtO
set_option linter.unusedVariables false
set_option linter.unusedSimpArgs false
open Go.RowKit Go.Proofs.YtdlkmnohmdnogaaDoor.PQ Go.Proofs.YtdlkmnohmdnogaaDoorW.PrintWords Go.Proofs.YtdlkmnohmdnogaaDoorW.PrintLast Go.Proofs.YtdlkmnohmdnogaaDoor.Pre Go.Proofs.YtdlkmnohmdnogaaDoor.Esc Go.Proofs.YtdlkmnohmdnogaaDoor.Uns Go.Proofs.YtdlkmnohmdnogaaDoor.PtS Go.Proofs.YtdlkmnohmdnogaaDoor.Seg
theorem mk_list (l : List UInt8) : (mk l).toList = l := by
 rw [ByteArray.toList_eq]
 rfl
theorem mk_bt (c : UInt8) (l : List UInt8) : bt (mk (c :: l)) 0 = (c.toNat : Int) := PtS.bt_at (mk (c :: l)) 0 (by rw [mk_size]; simp)
theorem mk_tail (c : UInt8) (l : List UInt8) : (mk (c :: l)).extract 1 (mk (c :: l)).size = mk l := by
 apply ByteArray.ext
 apply Array.ext'
 rw [ext_end]
 rfl
theorem mk_head (c : UInt8) (l : List UInt8) : (mk (c :: l)).extract 0 1 = mk [c] := by
 apply ByteArray.ext
 apply Array.ext'
 rw [ext_list]
 rfl
theorem val_cons (c : UInt8) (f : List UInt8) (h : c ≠ 126) : val (c :: f) = val f := by
 cases f with
 | nil => exact decide_eq_true h
 | cons d t => rw [val, if_neg h]
theorem toNat_ne {c : UInt8} {n : Nat} (h : c.toNat ≠ n) : ¬ ((c.toNat : Nat) : Int) = (n : Int) := fun e => h (Int.natCast_inj.1 e)
theorem ne_toNat {c d : UInt8} (h : c ≠ d) : c.toNat ≠ d.toNat := fun e => h (UInt8.toNat_inj.1 e)
/-- What the loop answers: one name is under way. -/
def res (name : List UInt8) (out : List ByteArray) : List (List UInt8) → List ByteArray × Bool
 | [] => ([], false)
 | f :: fs => if val f = true ∧ okS (mk (name ++ un f)) = true then pth fs (out ++ [mk (name ++ un f)]) else ([], false)
theorem res_nil (out : List ByteArray) (l : List UInt8) : res [] out (fld l) = pth (fld l) out := by
 cases h : fld l with
 | nil => exact absurd h (fld_ne l)
 | cons f fs => rfl
theorem end_ev (name : List UInt8) (out : List ByteArray) (r : List UInt8) (R : List ByteArray × Bool) (hn : name.length ≤ 200) (ho : out.length ≤ 200) (h : okS (mk name) = true → Evt (fun k => spec_l3Path.l0 k (mk r) (out ++ [mk name])) R) (hf : okS (mk name) ≠ true → R = ([], false)) :
  Evt (fun k => spec_l3Path.j3 k (mk r) out (mk name) false) R := by
 refine Evt.step (fun k => spec_l3Path.j3.eq_2 _ _ _ _ k) (Evt.neg (by decide) (Evt.bind (printed_ev (mk name) (by rw [mk_size]; omega)) ?_))
 by_cases hk : okS (mk name) = true
 ·exact Evt.pos hk (Evt.pos (by omega) (h hk))
 ·exact Evt.neg hk ((Evt.const _).eq (hf hk).symm)
theorem l1_ev : ∀ (n : Nat) (r name : List UInt8) (out : List ByteArray), r.length ≤ n → name.length + r.length ≤ 200 → out.length + r.length ≤ 200 → Evt (fun k => spec_l3Path.l1 k (mk r) out (mk name)) (res name out (fld r)) := by
 intro n
 induction n with
 | zero =>
  intro r name out hr h1 h2
  obtain rfl : r = [] := List.eq_nil_of_length_eq_zero (by omega)
  refine Evt.step (fun k => spec_l3Path.l1.eq_2 _ _ _ k) (Evt.pos (mk_list []) ?_)
  refine end_ev name out [] _ (by simpa using h1) (by simpa using h2) (fun hk => ?_) (fun hk => ?_)
  ·refine Evt.step (fun k => spec_l3Path.l0.eq_2 _ _ k) (Evt.pos (mk_list []) ((Evt.const _).eq ?_))
   show _ = if val [] = true ∧ okS (mk (name ++ [])) = true then pth [] (out ++ [mk (name ++ [])]) else ([], false)
   rw [List.append_nil, if_pos ⟨rfl, hk⟩]
   rfl
  ·show (if val [] = true ∧ okS (mk (name ++ [])) = true then pth [] (out ++ [mk (name ++ [])]) else ([], false)) = _
   rw [List.append_nil, if_neg (fun e => hk e.2)]
 | succ n ih =>
  intro r name out hr h1 h2
  match r, hr, h1, h2 with
  | [], hr, h1, h2 =>
   refine Evt.step (fun k => spec_l3Path.l1.eq_2 _ _ _ k) (Evt.pos (mk_list []) ?_)
   refine end_ev name out [] _ (by simpa using h1) (by simpa using h2) (fun hk => ?_) (fun hk => ?_)
   ·refine Evt.step (fun k => spec_l3Path.l0.eq_2 _ _ k) (Evt.pos (mk_list []) ((Evt.const _).eq ?_))
    show _ = if val [] = true ∧ okS (mk (name ++ [])) = true then pth [] (out ++ [mk (name ++ [])]) else ([], false)
    rw [List.append_nil, if_pos ⟨rfl, hk⟩]
    rfl
   ·show (if val [] = true ∧ okS (mk (name ++ [])) = true then pth [] (out ++ [mk (name ++ [])]) else ([], false)) = _
    rw [List.append_nil, if_neg (fun e => hk e.2)]
  | c :: t, hr, h1, h2 =>
   have ht : t.length ≤ n := by simp only [List.length_cons] at hr; omega
   simp only [List.length_cons] at h1 h2
   have hne : ¬ (mk (c :: t)).toList = ([] : List UInt8) := by rw [mk_list]; simp
   have hsz : (0 : Int) < ((mk (c :: t)).size : Int) := by rw [mk_size, List.length_cons]; omega
   have hs1 : (1 : Int) ≤ ((mk (c :: t)).size : Int) := by omega
   refine Evt.step (fun k => spec_l3Path.l1.eq_2 _ _ _ k) (Evt.neg hne (Evt.pos hsz ?_))
   rw [mk_bt]
   by_cases h47 : c = 47
   ·subst h47
    rw [show (((47 : UInt8).toNat : Int) != 47) = false from rfl]
    refine end_ev name out (47 :: t) _ (by omega) (by omega) (fun hk => ?_) (fun hk => ?_)
    ·refine Evt.step (fun k => spec_l3Path.l0.eq_2 _ _ k) (Evt.neg hne (Evt.pos hs1 ?_))
     rw [mk_tail]
     have h := ih t [] (out ++ [mk name]) ht (by simp; omega) (by simp; omega)
     refine h.eq ?_
     rw [res_nil, fld_sep]
     show _ = if val [] = true ∧ okS (mk (name ++ [])) = true then pth (fld t) (out ++ [mk (name ++ [])]) else ([], false)
     rw [List.append_nil, if_pos ⟨rfl, hk⟩]
    ·rw [fld_sep]
     show (if val [] = true ∧ okS (mk (name ++ [])) = true then pth (fld t) (out ++ [mk (name ++ [])]) else ([], false)) = _
     rw [List.append_nil, if_neg (fun e => hk e.2)]
   ·rw [show (((c.toNat : Nat) : Int) != 47) = true from bne_iff_ne.2 (toNat_ne (n := 47) (ne_toNat (d := 47) h47))]
    refine Evt.step (fun k => spec_l3Path.j3.eq_2 _ _ _ _ k) (Evt.pos rfl (Evt.pos (by decide) (Evt.pos hs1 ?_)))
    rw [mk_head, mk_tail, mk_list]
    by_cases h126 : c = 126
    ·subst h126
     refine Evt.pos rfl ?_
     match t, ht, h1, h2 with
     | [], ht, h1, h2 =>
      refine Evt.pos (mk_list []) (Evt.step (fun k => spec_l3Path.j4.eq_2 _ _ _ _ _ k) (Evt.pos rfl ((Evt.const _).eq ?_)))
      rfl
     | d :: u, ht, h1, h2 =>
      have hne2 : ¬ (mk (d :: u)).toList = ([] : List UInt8) := by rw [mk_list]; simp
      have hsz2 : (0 : Int) < ((mk (d :: u)).size : Int) := by rw [mk_size, List.length_cons]; omega
      have hs2 : (1 : Int) ≤ ((mk (d :: u)).size : Int) := by omega
      simp only [List.length_cons] at ht h1 h2
      refine Evt.neg hne2 (Evt.pos hsz2 ?_)
      rw [mk_bt]
      by_cases h48 : d = 48
      ·subst h48
       obtain ⟨f, fs, g1, g2⟩ := fld_char 48 u (by decide)
       obtain ⟨f', fs', g3, g4⟩ := fld_char 126 (48 :: u) (by decide)
       rw [g2] at g3
       injection g3 with g5 g6
       subst g5
       subst g6
       refine Evt.pos rfl (Evt.step (fun k => spec_l3Path.j4.eq_2 _ _ _ _ _ k) (Evt.neg (by decide) (Evt.pos hsz2 ?_)))
       rw [mk_bt, mk_tail, mk_append]
       refine Evt.neg (by decide) (Evt.pos hs2 (Evt.pos (by rw [mk_size, mk_size, List.length_singleton]; omega) ?_))
       refine (ih u (name ++ [126]) out (by omega) (by simp; omega) (by omega)).eq ?_
       rw [g1, g4]
       show (if val f = true ∧ okS (mk ((name ++ [126]) ++ un f)) = true then pth fs (out ++ [mk ((name ++ [126]) ++ un f)]) else ([], false)) = if val (126 :: 48 :: f) = true ∧ okS (mk (name ++ un (126 :: 48 :: f))) = true then pth fs (out ++ [mk (name ++ un (126 :: 48 :: f))]) else ([], false)
       rw [un_til, List.append_assoc]
       rfl
      ·refine Evt.neg (toNat_ne (n := 48) (ne_toNat (d := 48) h48)) ?_
       by_cases h49 : d = 49
       ·subst h49
        rw [show (((49 : UInt8).toNat : Int) != 49) = false from rfl]
        obtain ⟨f, fs, g1, g2⟩ := fld_char 49 u (by decide)
        obtain ⟨f', fs', g3, g4⟩ := fld_char 126 (49 :: u) (by decide)
        rw [g2] at g3
        injection g3 with g5 g6
        subst g5
        subst g6
        refine Evt.step (fun k => spec_l3Path.j4.eq_2 _ _ _ _ _ k) (Evt.neg (by decide) (Evt.pos hsz2 ?_))
        rw [mk_bt, mk_tail, show (⟨#[47]⟩ : ByteArray) = mk [47] from rfl, mk_append]
        refine Evt.pos rfl (Evt.pos hs2 (Evt.pos (by rw [mk_size]; omega) ?_))
        refine (ih u (name ++ [47]) out (by omega) (by simp; omega) (by omega)).eq ?_
        rw [g1, g4]
        show (if val f = true ∧ okS (mk ((name ++ [47]) ++ un f)) = true then pth fs (out ++ [mk ((name ++ [47]) ++ un f)]) else ([], false)) = if val (126 :: 49 :: f) = true ∧ okS (mk (name ++ un (126 :: 49 :: f))) = true then pth fs (out ++ [mk (name ++ un (126 :: 49 :: f))]) else ([], false)
        rw [un_sla, List.append_assoc]
        rfl
       ·rw [show (((d.toNat : Nat) : Int) != 49) = true from bne_iff_ne.2 (toNat_ne (n := 49) (ne_toNat (d := 49) h49))]
        refine Evt.step (fun k => spec_l3Path.j4.eq_2 _ _ _ _ _ k) (Evt.pos rfl ((Evt.const _).eq ?_))
        by_cases hd47 : d = 47
        ·subst hd47
         obtain ⟨f', fs', g3, g4⟩ := fld_char 126 (47 :: u) (by decide)
         rw [fld_sep] at g3
         injection g3 with g5 g6
         subst g5
         rw [g4]
         rfl
        ·obtain ⟨f, fs, g1, g2⟩ := fld_char d u hd47
         obtain ⟨f', fs', g3, g4⟩ := fld_char 126 (d :: u) (by decide)
         rw [g2] at g3
         injection g3 with g5 g6
         subst g5
         subst g6
         rw [g4]
         show _ = if val (126 :: d :: f) = true ∧ okS (mk (name ++ un (126 :: d :: f))) = true then _ else _
         have hv : val (126 :: d :: f) = false := by rw [val, if_pos rfl, if_neg (fun e => e.elim h48 h49)]
         rw [hv, if_neg (fun e => by cases e.1)]
    ·refine Evt.neg (fun e => h126 (by injection e)) ?_
     rw [mk_append]
     refine Evt.pos (by rw [mk_size, mk_size, List.length_singleton]; omega) ?_
     obtain ⟨f, fs, g1, g2⟩ := fld_char c t h47
     refine (ih t (name ++ [c]) out ht (by simp; omega) (by omega)).eq ?_
     rw [g1, g2]
     show (if val f = true ∧ okS (mk ((name ++ [c]) ++ un f)) = true then pth fs (out ++ [mk ((name ++ [c]) ++ un f)]) else ([], false)) = if val (c :: f) = true ∧ okS (mk (name ++ un (c :: f))) = true then pth fs (out ++ [mk (name ++ un (c :: f))]) else ([], false)
     rw [un_one c f h126, val_cons c f h126, List.append_assoc]
     rfl
theorem spec_ev (s : ByteArray) : Evt (fun k => spec_l3Path.f k s) (ansPath s) := by
 obtain ⟨l, rfl⟩ : ∃ l, s = mk l := ⟨s.data.toList, rfl⟩
 unfold spec_l3Path.f ansPath
 by_cases h60 : ((mk l).size : Int) > 60
 ·rw [if_pos (show (mk l).size > 60 by omega)]
  exact Evt.pos h60 (Evt.step (fun k => spec_l3Path.j0.eq_2 _ _ k) (Evt.pos rfl (Evt.const _)))
 ·rw [if_neg (show ¬ (mk l).size > 60 by omega)]
  rw [mk_size] at h60
  refine Evt.neg (by rw [mk_size]; exact h60) ?_
  match l, h60 with
  | [], h60 => exact Evt.pos (mk_list []) (Evt.step (fun k => spec_l3Path.j0.eq_2 _ _ k) (Evt.neg (by decide) (Evt.step (fun k => spec_l3Path.l0.eq_2 _ _ k) (Evt.pos (mk_list []) (Evt.const _)))))
  | c :: t, h60 =>
   simp only [List.length_cons] at h60
   have hne : ¬ (mk (c :: t)).toList = ([] : List UInt8) := by rw [mk_list]; simp
   have hsz : (0 : Int) < ((mk (c :: t)).size : Int) := by rw [mk_size, List.length_cons]; omega
   have hs1 : (1 : Int) ≤ ((mk (c :: t)).size : Int) := by omega
   refine Evt.neg hne (Evt.pos hsz ?_)
   rw [mk_bt]
   show Evt _ (if c = 47 then pth (fld t) [] else ([], false))
   by_cases h47 : c = 47
   ·subst h47
    rw [show (((47 : UInt8).toNat : Int) != 47) = false from rfl, if_pos rfl]
    refine Evt.step (fun k => spec_l3Path.j0.eq_2 _ _ k) (Evt.neg (by decide) (Evt.step (fun k => spec_l3Path.l0.eq_2 _ _ k) (Evt.neg hne (Evt.pos hs1 ?_))))
    rw [mk_tail]
    exact (l1_ev t.length t [] [] (Nat.le_refl _) (by simp; omega) (by simp; omega)).eq (res_nil [] t)
   ·rw [show (((c.toNat : Nat) : Int) != 47) = true from bne_iff_ne.2 (toNat_ne (n := 47) (ne_toNat (d := 47) h47)), if_neg h47]
    exact Evt.step (fun k => spec_l3Path.j0.eq_2 _ _ k) (Evt.pos rfl (Evt.const _))
end Go.Proofs.YtdlkmnohmdnogaaDoor.PtO
end

section
namespace Go.Proofs.YtdlkmnohmdnogaaDoor.Strs
set_option linter.unusedVariables false
open Go.RowKit Go.Proofs.YtdlkmnohmdnogaaDoor.PQ Go.Proofs.YtdlkmnohmdnogaaDoorW.PrintWords Go.Proofs.YtdlkmnohmdnogaaDoorW.PrintLast Go.Proofs.YtdlkmnohmdnogaaDoor.Pre
theorem rd_get (l : List ByteArray) (i : Nat) (h : i < l.length) : rdOf ByteArray.empty l (i : Int) = l[i] := by
 unfold rdOf
 simp [h]
theorem size1 (c : Int) : (strOfNums [c]).size = 1 := by
 show (strOfNums [c]).data.size = 1
 rw [← Array.length_toList, strOfNums_data]
 rfl
theorem eq_ev (a b : List ByteArray) (hl : a.length ≤ 1048576) : Evt (fun k => laws_eqStringS.f k a b) (decide (a = b)) := by
 unfold laws_eqStringS.f
 by_cases hn : a.length = b.length
 ·refine Evt.pos (by omega) ?_
  have key : ∀ (m i : Nat), i + m = a.length → a.take i = b.take i → Evt (fun k => laws_eqStringS.l0 k a b (i : Int)) (decide (a = b)) := by
   intro m
   induction m with
   | zero =>
    intro i hi ht
    refine Evt.step (fun k => laws_eqStringS.l0.eq_2 _ _ _ k) (Evt.neg (by omega) ((Evt.const _).eq ?_))
    rw [List.take_of_length_le (by omega), List.take_of_length_le (by omega)] at ht
    exact (decide_eq_true ht).symm
   | succ m ih =>
    intro i hi ht
    refine Evt.step (fun k => laws_eqStringS.l0.eq_2 _ _ _ k) (Evt.pos (by omega) (Evt.pos (by omega) (Evt.pos (by omega) ?_)))
    rw [rd_get a i (by omega), rd_get b i (by omega), w64 (n := (i : Int) + 1) (by omega) (by omega)]
    by_cases he : a[i] = b[i]
    ·refine Evt.pos (by rw [he]) (ih (i + 1) (by omega) ?_)
     rw [List.take_succ_eq_append_getElem (by omega), List.take_succ_eq_append_getElem (by omega), ht, he]
    ·refine Evt.neg (fun e => he (Byt.toList_inj e)) ((Evt.const _).eq ?_)
     refine (decide_eq_false ?_).symm
     intro e
     subst e
     exact he rfl
  exact key a.length 0 (by omega) rfl
 ·refine Evt.neg (by omega) ((Evt.const _).eq ?_)
  refine (decide_eq_false ?_).symm
  intro e
  rw [e] at hn
  exact hn rfl
theorem eq_self (a : List ByteArray) (hl : a.length ≤ 1048576) : Evt (fun k => laws_eqStringS.f k a a) true := (eq_ev a a hl).eq (by simp)
theorem text_ex : ∀ (m n : Nat) (x : ByteArray), n < 10 ^ m → n ≤ 4611686018427387904 → x.size + m ≤ 1000 → ∃ t, Evt (fun k => laws_markText.l0 k (n : Int) x) t
 | 0, n, x, h, _, hx => by
  obtain rfl : n = 0 := by simpa using h
  exact ⟨_, Evt.step (fun k => laws_markText.l0.eq_2 _ _ k) (Evt.neg (by omega) (Evt.pos (by omega) (Evt.const _)))⟩
 | m + 1, n, x, h, hb, hx => by
  by_cases h0 : n = 0
  ·subst h0
   exact ⟨_, Evt.step (fun k => laws_markText.l0.eq_2 _ _ k) (Evt.neg (by omega) (Evt.pos (by omega) (Evt.const _)))⟩
  ·have hd : n / 10 < 10 ^ m := by
    rw [Nat.div_lt_iff_lt_mul (by omega), ← Nat.pow_succ]
    exact h
   obtain ⟨t, ht⟩ := text_ex m (n / 10) (strOfNums [(wrap64 (48 + (Int.tmod (n : Int) 10))) % 256] ++ x) hd (by omega) (by rw [ByteArray.size_append, size1]; omega)
   refine ⟨t, Evt.step (fun k => laws_markText.l0.eq_2 _ _ k) (Evt.pos (by omega) (Evt.bsome (Evt.pos (by rw [size1]; omega) ?_)))⟩
   rw [show Int.tdiv (n : Int) 10 = ((n / 10 : Nat) : Int) by rw [Int.tdiv_eq_ediv_of_nonneg (by omega)]; omega, w64 (by omega) (by omega)]
   exact ht
theorem mtext (n : Nat) : ∃ t, n ≤ 4611686018427387904 → Evt (fun k => laws_markText.f k (n : Int)) t := by
 by_cases h : n ≤ 4611686018427387904
 ·by_cases h0 : n = 0
  ·subst h0
   exact ⟨_, fun _ => by unfold laws_markText.f; exact Evt.pos (by omega) (Evt.const _)⟩
  ·have h12 : (10 : Nat) ^ 19 = 10000000000000000000 := by decide
   obtain ⟨t, ht⟩ := text_ex 19 n ⟨#[]⟩ (by rw [h12]; omega) h (by decide)
   exact ⟨t, fun _ => by unfold laws_markText.f; exact Evt.neg (by omega) ht⟩
 ·exact ⟨⟨#[]⟩, fun h2 => absurd h2 h⟩
/-- The text of a mark. -/
noncomputable def mT (n : Nat) : ByteArray := (mtext n).choose
theorem mT_ev (n : Nat) (h : n ≤ 4611686018427387904) : Evt (fun k => laws_markText.f k (n : Int)) (mT n) := (mtext n).choose_spec h
theorem mark_ev (l : List ByteArray) (m0 : Nat) (hm : m0 ≤ 4194304) (hl : l.length ≤ 1048576) : Evt (fun k => laws_markStringS.f k l (m0 : Int)) (((m0 + l.length : Nat) : Int), (List.range l.length).map (fun j => mT (m0 + j))) := by
 unfold laws_markStringS.f
 have key : ∀ (m i : Nat) (acc : List ByteArray), i + m = l.length → acc.length = l.length → (∀ j, j < i → acc[j]? = some (mT (m0 + j))) →
   Evt (fun k => laws_markStringS.l0 k acc ((m0 + i : Nat) : Int) (i : Int)) (((m0 + l.length : Nat) : Int), (List.range l.length).map (fun j => mT (m0 + j))) := by
  intro m
  induction m with
  | zero =>
   intro i acc hi ha hj
   refine Evt.step (fun k => laws_markStringS.l0.eq_2 _ _ _ k) (Evt.neg (by omega) ((Evt.const _).eq ?_))
   rw [show i = l.length by omega]
   congr 1
   apply List.ext_getElem?
   intro j
   by_cases hlt : j < l.length
   ·rw [hj j (by omega)]
    simp [hlt]
   ·rw [List.getElem?_eq_none (by omega), List.getElem?_eq_none (by simp; omega)]
  | succ m ih =>
   intro i acc hi ha hj
   refine Evt.step (fun k => laws_markStringS.l0.eq_2 _ _ _ k) (Evt.pos (by omega) (Evt.bind (mT_ev (m0 + i) (by omega)) (Evt.pos (by omega) ?_)))
   rw [w64 (n := ((m0 + i : Nat) : Int) + 1) (by omega) (by omega), w64 (n := (i : Int) + 1) (by omega) (by omega)]
   rw [show ((m0 + i : Nat) : Int) + 1 = ((m0 + (i + 1) : Nat) : Int) by omega]
   refine ih (i + 1) _ (by omega) (by simp; omega) (fun j hlt => ?_)
   rw [Int.toNat_natCast]
   by_cases hji : j = i
   ·subst hji
    exact List.getElem?_set_self (by omega)
   ·rw [List.getElem?_set_ne (by omega)]
    exact hj j (by omega)
 exact key l.length 0 l (by omega) rfl (fun j h => by omega)
theorem held_ev (n m0 : Nat) (hm : m0 ≤ 4194304) (hl : n ≤ 1048576) : Evt (fun k => laws_heldStringS.f k ((List.range n).map (fun j => mT (m0 + j))) (m0 : Int)) ((m0 + n : Nat) : Int) := by
 unfold laws_heldStringS.f
 have hlen : ((List.range n).map (fun j => mT (m0 + j))).length = n := by simp
 have key : ∀ (m i : Nat), i + m = n → Evt (fun k => laws_heldStringS.l0 k ((List.range n).map (fun j => mT (m0 + j))) ((m0 + i : Nat) : Int) (i : Int)) ((m0 + n : Nat) : Int) := by
  intro m
  induction m with
  | zero =>
   intro i hi
   refine Evt.step (fun k => laws_heldStringS.l0.eq_2 _ _ _ k) (Evt.neg (by rw [hlen]; omega) ((Evt.const _).eq ?_))
   rw [show i = n by omega]
  | succ m ih =>
   intro i hi
   refine Evt.step (fun k => laws_heldStringS.l0.eq_2 _ _ _ k) (Evt.pos (by rw [hlen]; omega) (Evt.pos (by omega) (Evt.bind (mT_ev (m0 + i) (by omega)) ?_)))
   rw [w64 (n := ((m0 + i : Nat) : Int) + 1) (by omega) (by omega), w64 (n := (i : Int) + 1) (by omega) (by omega)]
   rw [show ((m0 + i : Nat) : Int) + 1 = ((m0 + (i + 1) : Nat) : Int) by omega]
   refine Evt.pos ?_ (ih (i + 1) (by omega))
   rw [rd_get _ i (by rw [hlen]; omega)]
   simp
 exact key n 0 (by omega)
end Go.Proofs.YtdlkmnohmdnogaaDoor.Strs
end

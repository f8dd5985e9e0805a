/- Several texts in one: what the claim's last text rests on. No conditions. -/
import Derived.Test.YtjknkeipginpcaaMTi10
import Derived.Test.YtjknkeipginpcaaMTi7
import Derived.Test.YtjknkeipginpcaaMTi5
import Derived.Test.YtjknkeipginpcaaMTi9
section
namespace Go.Proofs.Ytjknkeipginpcaa.TrG
set_option linter.unusedVariables false
set_option linter.unusedSimpArgs false
open Go.RowKit Go.Proofs.Ytjknkeipginpcaa.PQ Go.Proofs.YtjknkeipginpcaaW.PrintWords Go.Proofs.Ytjknkeipginpcaa.Pre Go.Proofs.Ytjknkeipginpcaa.Tr Go.Proofs.Ytjknkeipginpcaa.Pr Go.Proofs.Ytjknkeipginpcaa.Po
abbrev Pb := S74
def bkI (x : KV) : Pa := ⟨x.1, x.2⟩
def bkS (x : KV) : Pb := ⟨x.1, x.2⟩
theorem bkI_kv (l : List KV) : (l.map bkI).map BuI.kv = l := by
 rw [List.map_map]
 exact (List.map_congr_left (fun x _ => rfl)).trans (List.map_id l)
theorem bkS_kv (l : List KV) : (l.map bkS).map BuS.kv = l := by
 rw [List.map_map]
 exact (List.map_congr_left (fun x _ => rfl)).trans (List.map_id l)
theorem kvS_bk (l : List Pb) : (l.map BuS.kv).map bkS = l := by
 rw [List.map_map]
 exact (List.map_congr_left (fun x _ => rfl)).trans (List.map_id l)
theorem tup_inj {x y : Lb} (h : tup x = tup y) : x = y := by
 unfold tup at h
 simp only [Prod.mk.injEq] at h
 obtain ⟨h0, h1, h2, h3⟩ := h
 cases x
 cases y
 simp only at h0 h1 h2 h3
 rw [Byt.toList_inj h0, Byt.toList_inj h1, h2, h3]
theorem eqb_iff (a b : List Lb) : eqb a b = true ↔ a = b := by
 unfold eqb
 rw [decide_eq_true_iff]
 exact ⟨fun h => (List.map_inj_right (fun x y => tup_inj)).1 h, fun h => by rw [h]⟩
def okV (l : List KV) (i : Nat) : Bool := (decide (1 ≤ (l.getD i zKV).1.size ∧ (l.getD i zKV).1.size ≤ 40) && decide ((l.getD i zKV).2.size ≤ 60)) && (decide (i = 0) || Op.bytesLess (l.getD (i - 1) zKV).1.toList (l.getD i zKV).1.toList)
/-- Limbs are those of rising short keys. -/
def Good (L : List Lb) (l : List KV) : Prop := l.length ≤ 60 ∧ (∀ i, i < l.length → okV l i = true) ∧ enc l.length 0 l = L
theorem Good.len {L : List Lb} {l : List KV} (h : Good L l) : l.length = L.length := by
 rw [← h.2.2, enc_len _ _ _ (Nat.le_refl _)]
theorem okAt_V (ps : List Pa) (i : Nat) (hi : i < ps.length) : okAt ps i = okV (ps.map BuI.kv) i := by
 rw [okAt_eq ps i _ rfl]
 unfold okV
 rw [(BuI.kv_key ps i hi).1, (BuI.kv_key ps i hi).2, (BuI.kv_key ps (i - 1) (by omega)).1]
theorem okV_size {l : List KV} {i : Nat} (h : okV l i = true) : (l.getD i zKV).1.size ≤ 40 := by
 unfold okV at h
 simp only [Bool.and_eq_true, decide_eq_true_eq] at h
 exact h.1.1.2
theorem split3 (l : List KV) (t : Nat) (h : t < l.length) : l = l.take t ++ l.getD t zKV :: l.drop (t + 1) := by
 conv => lhs; rw [← List.take_append_drop t l, List.drop_eq_getElem_cons h]
 rw [List.getD_eq_getElem?_getD, List.getElem?_eq_getElem h]
 rfl
theorem enc_nil (n b : Nat) : enc n b [] = [] := by
 cases n <;> simp [enc]
theorem enc_cons (n b : Nat) (l : List KV) (h : l.length ≠ 0) : enc (n + 1) b l = ⟨(l.getD (top l) zKV).1, (l.getD (top l) zKV).2, rt (b + 1) (l.take (top l)), rt (b + 1 + top l) (l.drop (top l + 1))⟩ :: (enc n (b + 1) (l.take (top l)) ++ enc n (b + 1 + top l) (l.drop (top l + 1))) := by
 conv => lhs; unfold enc
 rw [if_neg h]
theorem rt_nil (b : Nat) : rt b [] = -1 := rfl
theorem at_pre (pre post : List Lb) (x : Lb) : rd_T71 (pre ++ x :: post) (pre.length : Int) = x := by
 rw [rdL _ _ (by simp)]
 simp
theorem prs_enc : ∀ (n : Nat) (l : List KV) (b f : Nat) (pre post L : List Lb), L = pre ++ (enc n b l ++ post) → pre.length = b → l.length ≤ n → l.length ≤ f → prs L f (rt b l) b = some (l.map bkI, b + l.length) := by
 intro n
 induction n with
 | zero =>
  intro l b f pre post L hL hb hn hf
  obtain rfl : l = [] := List.eq_nil_of_length_eq_zero (by omega)
  exact prs_end L f b
 | succ n ih =>
  intro l b f pre post L hL hb hn hf
  by_cases hz : l.length = 0
  ·
   obtain rfl : l = [] := List.eq_nil_of_length_eq_zero hz
   exact prs_end L f b
  ·
   obtain ⟨f, rfl⟩ : ∃ f', f = f' + 1 := ⟨f - 1, by omega⟩
   have ht := top_lt l (by omega)
   rw [enc_cons n b l hz] at hL
   have e := split3 l (top l) ht
   have hlt : (l.take (top l)).length = top l := by rw [List.length_take]; omega
   have hld : (l.drop (top l + 1)).length = l.length - top l - 1 := by rw [List.length_drop]; omega
   have l1 := enc_len n (b + 1) (l.take (top l)) (by omega)
   have i1 := ih (l.take (top l)) (b + 1) f (pre ++ [⟨(l.getD (top l) zKV).1, (l.getD (top l) zKV).2, rt (b + 1) (l.take (top l)), rt (b + 1 + top l) (l.drop (top l + 1))⟩]) (enc n (b + 1 + top l) (l.drop (top l + 1)) ++ post) L (by rw [hL]; simp) (by rw [List.length_append, hb]; rfl) (by omega) (by omega)
   have i2 := ih (l.drop (top l + 1)) (b + 1 + top l) f (pre ++ (⟨(l.getD (top l) zKV).1, (l.getD (top l) zKV).2, rt (b + 1) (l.take (top l)), rt (b + 1 + top l) (l.drop (top l + 1))⟩ :: enc n (b + 1) (l.take (top l)))) post L (by rw [hL]; simp) (by rw [List.length_append, List.length_cons, hb, l1, hlt]; omega) (by omega) (by omega)
   rw [hlt] at i1
   have hx : rd_T71 L (b : Int) = ⟨(l.getD (top l) zKV).1, (l.getD (top l) zKV).2, rt (b + 1) (l.take (top l)), rt (b + 1 + top l) (l.drop (top l + 1))⟩ := by
    rw [hL, ← hb]
    exact at_pre _ _ _
   have hbl : b < L.length := by rw [hL, List.length_append, hb]; simp
   rw [rt_pos b l hz]
   unfold prs
   rw [if_neg (by omega), if_pos ⟨rfl, hbl⟩, hx]
   show (prs L f (rt (b + 1) (l.take (top l))) (b + 1)).bind _ = _
   rw [i1]
   show (prs L f (rt (b + 1 + top l) (l.drop (top l + 1))) (b + 1 + top l)).bind _ = _
   rw [i2]
   show some ((l.take (top l)).map bkI ++ bkI (l.getD (top l) zKV) :: (l.drop (top l + 1)).map bkI, b + 1 + top l + (l.drop (top l + 1)).length) = _
   rw [hld]
   congr 2
   ·
    conv => rhs; rw [e]
    rw [List.map_append, List.map_cons]
   ·
    omega
theorem prs_good {L : List Lb} {l : List KV} (h : Good L l) (h0 : L.length ≠ 0) : prs L L.length 0 0 = some (l.map bkI, L.length) := by
 have hl := h.len
 have := prs_enc l.length l 0 L.length [] [] L (by rw [h.2.2]; simp) rfl (Nat.le_refl _) (by omega)
 rw [rt_pos 0 l (by omega)] at this
 rw [← hl]
 rw [← hl] at this
 exact this.trans (by rw [Nat.zero_add])
theorem ansP_good {L : List Lb} {l : List KV} (h : Good L l) : ansP L = (l.map bkI, true) := by
 unfold ansP
 have hl := h.len
 by_cases h0 : L.length = 0
 ·
  rw [if_pos h0]
  obtain rfl : l = [] := List.eq_nil_of_length_eq_zero (by omega)
  rfl
 ·
  rw [if_neg h0, if_neg (by have := h.1; omega), prs_good h h0]
  show (if L.length = L.length then _ else _) = _
  have hk : okP (l.map bkI) = true := by
   unfold okP
   refine List.all_eq_true.2 fun i hi => ?_
   have hi' := List.mem_range.1 hi
   rw [okAt_V _ i hi', bkI_kv]
   exact h.2.1 i (by simpa using hi')
  rw [if_pos rfl, if_pos hk, bkI_kv, List.length_map, (eqb_iff _ _).2 h.2.2]
theorem ansP_true {L : List Lb} (h : (ansP L).2 = true) : Good L ((ansP L).1.map BuI.kv) := by
 unfold ansP at h ⊢
 by_cases h0 : L.length = 0
 ·
  rw [if_pos h0]
  obtain rfl : L = [] := List.eq_nil_of_length_eq_zero h0
  exact ⟨Nat.zero_le _, fun i hi => absurd hi (Nat.not_lt_zero _), rfl⟩
 ·
  rw [if_neg h0] at h ⊢
  by_cases h60 : L.length > 60
  ·
   rw [if_pos h60] at h
   cases h
  ·
   rw [if_neg h60] at h ⊢
   cases hp : prs L L.length 0 0 with
   | none => rw [hp] at h; cases h
   | some r =>
    obtain ⟨ps, n2⟩ := r
    rw [hp] at h
    simp only at h ⊢
    by_cases hn : n2 = L.length
    ·
     rw [if_pos hn] at h ⊢
     by_cases hk : okP ps = true
     ·
      rw [if_pos hk] at h ⊢
      have hl := prs_len L _ _ _ _ _ (Nat.zero_le _) hp
      have he := (eqb_iff _ _).1 h
      refine ⟨by show (ps.map BuI.kv).length ≤ 60; rw [List.length_map]; omega, fun i hi => ?_, by show enc (ps.map BuI.kv).length 0 (ps.map BuI.kv) = L; rw [List.length_map]; exact he⟩
      replace hi : i < (ps.map BuI.kv).length := hi
      rw [List.length_map] at hi
      show okV (ps.map BuI.kv) i = true
      rw [← okAt_V _ i hi]
      exact List.all_eq_true.1 hk i (List.mem_range.2 hi)
     ·
      rw [if_neg hk] at h
      cases h
    ·
     rw [if_neg hn] at h
     cases h
abbrev Ans := List Pb × Bool
def F0 : Ans := ([], false)
theorem in_eq (a lo hi : Int) : spec_l1In.f a lo hi = some (decide (lo ≤ a ∧ a ≤ hi)) := by
 unfold spec_l1In.f
 by_cases h : a ≥ lo
 ·
  rw [if_pos h]
  refine congrArg some (decide_eq_decide.2 ?_)
  omega
 ·
  rw [if_neg h]
  refine congrArg some ?_
  symm
  exact decide_eq_false (by omega)
theorem sV (ps : List Pb) (i : Nat) (hi : i < ps.length) : (rd_T74 ps (i : Int)).f0 = ((ps.map BuS.kv).getD i zKV).1 ∧ (rd_T74 ps (i : Int)).f1 = ((ps.map BuS.kv).getD i zKV).2 := ⟨((BuS.kv_key ps i hi).1).symm, ((BuS.kv_key ps i hi).2).symm⟩

section
variable (L : List Lb)
/-- Behind the first conditions. -/
theorem j1_bad (d : Int) (a b : ByteArray) (x y : Int) : Evt (fun k => spec_l7Pairs.j1 k d true L a b x y) F0 :=
 Evt.step (fun k => spec_l7Pairs.j1.eq_2 _ _ _ _ _ _ _ k) (Evt.pos rfl (Evt.const _))
theorem j1_go (d : Int) (hd : 0 ≤ d ∧ d ≤ 61) (a b : ByteArray) (x y : Int) (r1 r2 : Ans) (h1 : Evt (fun k => spec_l7Pairs.f k L x (d + 1)) r1) (h2 : Evt (fun k => spec_l7Pairs.f k L y (d + 1)) r2) (hl1 : r1.1.length ≤ 60) (hl2 : r2.1.length ≤ 60) (r : Ans)
  (hg : r1.2 = true → r2.2 = true → r1.1.length + r2.1.length < 60 → r = (r1.1 ++ ⟨a, b⟩ :: r2.1, true)) (hb : ¬ (r1.2 = true ∧ r2.2 = true ∧ r1.1.length + r2.1.length < 60) → r = F0) : Evt (fun k => spec_l7Pairs.j1 k d false L a b x y) r := by
 refine Evt.step (fun k => spec_l7Pairs.j1.eq_2 _ _ _ _ _ _ _ k) (Evt.neg (by decide) ?_)
 rw [w64 (n := d + 1) (by omega) (by omega)]
 refine Evt.bind h1 (Evt.bind h2 ?_)
 by_cases c1 : r1.2 = true
 ·
  refine Evt.pos c1 ?_
  by_cases c2 : r2.2 = true
  ·
   refine Evt.pos c2 ?_
   rw [w64 (n := (r1.1.length : Int) + (r2.1.length : Int)) (by omega) (by omega)]
   by_cases c3 : r1.1.length + r2.1.length < 60
   ·
    refine Evt.neg (by omega) ?_
    refine Evt.bsome (Evt.pos (by simp; omega) (Evt.bsome (Evt.pos (by simp; omega) (Evt.bsome (Evt.pos (by simp; omega) ?_)))))
    refine (Evt.const _).eq ?_
    rw [hg c1 c2 c3]
    simp
   ·
    refine (Evt.pos (by omega) (Evt.const _)).eq ?_
    exact (hb (fun h => c3 h.2.2)).symm
  ·
   refine (Evt.neg c2 (Evt.const _)).eq ?_
   exact (hb (fun h => c2 h.2.1)).symm
 ·
  refine (Evt.neg c1 (Evt.const _)).eq ?_
  exact (hb (fun h => c1 h.1)).symm
theorem j0_go (k1 d : Int) (r : Ans) (hk : 0 ≤ k1 ∧ k1 < (L.length : Int))
  (h : ∀ bad : Bool, (bad = false ↔ ((rd_T71 L k1).f2 = -1 ∨ k1 < (rd_T71 L k1).f2) ∧ ((rd_T71 L k1).f3 = -1 ∨ k1 < (rd_T71 L k1).f3)) → Evt (fun k => spec_l7Pairs.j1 k d bad L (rd_T71 L k1).f0 (rd_T71 L k1).f1 (rd_T71 L k1).f2 (rd_T71 L k1).f3) r) :
  Evt (fun k => spec_l7Pairs.j0 k k1 d false L) r := by
 refine Evt.step (fun k => spec_l7Pairs.j0.eq_2 _ _ _ _ k) (Evt.neg (by decide) (Evt.pos hk.1 (Evt.pos hk.2 ?_)))
 generalize hx : rd_T71 L k1 = x at *
 by_cases c1 : x.f2 = -1
 ·
  refine Evt.pos c1 ?_
  by_cases c2 : x.f3 = -1
  ·
   exact Evt.pos c2 (h false ⟨fun _ => ⟨.inl c1, .inl c2⟩, fun _ => rfl⟩)
  ·
   refine Evt.neg c2 (h _ ?_)
   rw [decide_eq_false_iff_not]
   constructor
   ·
    exact fun h => ⟨.inl c1, .inr (by omega)⟩
   ·
    rintro ⟨_, h | h⟩
    ·
     exact absurd h c2
    ·
     omega
 ·
  refine Evt.neg c1 ?_
  by_cases c3 : x.f2 ≤ k1
  ·
   refine Evt.pos c3 (h true ⟨fun h => (by cases h), ?_⟩)
   rintro ⟨h | h, _⟩
   ·
    exact absurd h c1
   ·
    omega
  ·
   refine Evt.neg c3 ?_
   by_cases c2 : x.f3 = -1
   ·
    exact Evt.pos c2 (h false ⟨fun _ => ⟨.inr (by omega), .inl c2⟩, fun _ => rfl⟩)
   ·
    refine Evt.neg c2 (h _ ?_)
    rw [decide_eq_false_iff_not]
    constructor
    ·
     exact fun h => ⟨.inr (by omega), .inr (by omega)⟩
    ·
     rintro ⟨_, h | h⟩
     ·
      exact absurd h c2
     ·
      omega
theorem p_go (hL : L.length ≤ 60) (k1 d : Int) (r : Ans) (h1 : k1 = -1 → r = ([], true)) (h2 : k1 ≠ -1 → ¬ (0 ≤ k1 ∧ k1 < (L.length : Int) ∧ d ≤ 60) → r = F0)
  (h3 : k1 ≠ -1 → 0 ≤ k1 ∧ k1 < (L.length : Int) ∧ d ≤ 60 → Evt (fun k => spec_l7Pairs.j0 k k1 d false L) r) : Evt (fun k => spec_l7Pairs.f k L k1 d) r := by
 refine Evt.step (fun k => spec_l7Pairs.f.eq_2 _ _ _ k) ?_
 by_cases c1 : k1 = -1
 ·
  refine (Evt.pos c1 (Evt.const _)).eq (h1 c1).symm
 ·
  refine Evt.neg c1 ?_
  rw [w64 (n := (L.length : Int) - 1) (by omega) (by omega)]
  refine Evt.bind (Evt.of fun _ => in_eq _ _ _) ?_
  by_cases c2 : 0 ≤ k1 ∧ k1 ≤ (L.length : Int) - 1
  ·
   refine Evt.pos (decide_eq_true c2) ?_
   by_cases c3 : d ≤ 60
   ·
    rw [show decide (d > 60) = false from decide_eq_false (by omega)]
    exact h3 c1 ⟨c2.1, by omega, c3⟩
   ·
    rw [show decide (d > 60) = true from decide_eq_true (by omega), h2 c1 (fun h => c3 h.2.2)]
    exact Evt.step (fun k => spec_l7Pairs.j0.eq_2 _ _ _ _ k) (Evt.pos rfl (Evt.const _))
  ·
   refine Evt.neg (by simp only [decide_eq_true_eq]; exact c2) ?_
   rw [h2 c1 (fun h => c2 ⟨h.1, by omega⟩)]
   exact Evt.step (fun k => spec_l7Pairs.j0.eq_2 _ _ _ _ k) (Evt.pos rfl (Evt.const _))
theorem p_any (hL : L.length ≤ 60) : ∀ (m : Nat) (k1 : Int), m ≤ 60 → ∃ r, Evt (fun k => spec_l7Pairs.f k L k1 (61 - (m : Int))) r ∧ r.1.length ≤ 60 := by
 intro m
 induction m with
 | zero =>
  intro k1 hm
  by_cases c : k1 = -1
  ·
   exact ⟨([], true), p_go L hL k1 _ _ (fun _ => rfl) (fun h => absurd c h) (fun h => absurd c h), by simp⟩
  ·
   exact ⟨F0, p_go L hL k1 _ _ (fun h => absurd h c) (fun _ _ => rfl) (fun _ h => absurd h.2.2 (by omega)), by simp [F0]⟩
 | succ m ih =>
  intro k1 hm
  by_cases c : k1 = -1
  ·
   exact ⟨([], true), p_go L hL k1 _ _ (fun _ => rfl) (fun h => absurd c h) (fun h => absurd c h), by simp⟩
  ·
   by_cases c2 : 0 ≤ k1 ∧ k1 < (L.length : Int) ∧ (61 - ((m + 1 : Nat) : Int)) ≤ 60
   ·
    obtain ⟨x, hx⟩ : ∃ x, x = rd_T71 L k1 := ⟨_, rfl⟩
    obtain ⟨r1, e1, l1⟩ := ih x.f2 (by omega)
    obtain ⟨r2, e2, l2⟩ := ih x.f3 (by omega)
    have ed : (61 - ((m + 1 : Nat) : Int)) + 1 = 61 - (m : Int) := by omega
    rw [← ed] at e1 e2
    by_cases hbad : ((x.f2 = -1 ∨ k1 < x.f2) ∧ (x.f3 = -1 ∨ k1 < x.f3))
    ·
     by_cases hg : r1.2 = true ∧ r2.2 = true ∧ r1.1.length + r2.1.length < 60
     ·
      refine ⟨(r1.1 ++ ⟨x.f0, x.f1⟩ :: r2.1, true), p_go L hL k1 _ _ (fun h => absurd h c) (fun _ h => absurd c2 h) (fun _ _ => ?_), by simp; omega⟩
      refine j0_go L k1 _ _ ⟨c2.1, c2.2.1⟩ (fun bad hb => ?_)
      rw [← hx] at hb ⊢
      rw [hb.2 hbad]
      exact j1_go L _ (by omega) _ _ _ _ r1 r2 e1 e2 l1 l2 _ (fun _ _ _ => rfl) (fun h => absurd hg h)
     ·
      refine ⟨F0, p_go L hL k1 _ _ (fun h => absurd h c) (fun _ h => absurd c2 h) (fun _ _ => ?_), by simp [F0]⟩
      refine j0_go L k1 _ _ ⟨c2.1, c2.2.1⟩ (fun bad hb => ?_)
      rw [← hx] at hb ⊢
      rw [hb.2 hbad]
      exact j1_go L _ (by omega) _ _ _ _ r1 r2 e1 e2 l1 l2 _ (fun h1 h2 h3 => absurd ⟨h1, h2, h3⟩ hg) (fun h => rfl)
    ·
     refine ⟨F0, p_go L hL k1 _ _ (fun h => absurd h c) (fun _ h => absurd c2 h) (fun _ _ => ?_), by simp [F0]⟩
     refine j0_go L k1 _ _ ⟨c2.1, c2.2.1⟩ (fun bad hb => ?_)
     rw [← hx] at hb ⊢
     cases bad with
     | false => exact absurd (hb.1 rfl) hbad
     | true => exact j1_bad L _ _ _ _ _
   ·
    exact ⟨F0, p_go L hL k1 _ _ (fun h => absurd h c) (fun _ _ => rfl) (fun _ h => absurd h c2), by simp [F0]⟩
theorem p_enc (hL : L.length ≤ 60) : ∀ (n : Nat) (l : List KV) (b : Nat) (d : Int) (pre post : List Lb), L = pre ++ (enc n b l ++ post) → pre.length = b → l.length ≤ n → 1 ≤ d → d + (l.length : Int) ≤ 61 → Evt (fun k => spec_l7Pairs.f k L (rt b l) d) (l.map bkS, true) := by
 intro n
 induction n with
 | zero =>
  intro l b d pre post hL2 hb hn hd0 hd
  obtain rfl : l = [] := List.eq_nil_of_length_eq_zero (by omega)
  exact p_go L hL _ _ _ (fun _ => rfl) (fun h => absurd rfl h) (fun h => absurd rfl h)
 | succ n ih =>
  intro l b d pre post hL2 hb hn hd0 hd
  by_cases hz : l.length = 0
  ·
   obtain rfl : l = [] := List.eq_nil_of_length_eq_zero hz
   exact p_go L hL _ _ _ (fun _ => rfl) (fun h => absurd rfl h) (fun h => absurd rfl h)
  ·
   have ht := top_lt l (by omega)
   rw [enc_cons n b l hz] at hL2
   have e := split3 l (top l) ht
   have hlt : (l.take (top l)).length = top l := by rw [List.length_take]; omega
   have hld : (l.drop (top l + 1)).length = l.length - top l - 1 := by rw [List.length_drop]; omega
   have l1 := enc_len n (b + 1) (l.take (top l)) (by omega)
   have i1 := ih (l.take (top l)) (b + 1) (d + 1) (pre ++ [⟨(l.getD (top l) zKV).1, (l.getD (top l) zKV).2, rt (b + 1) (l.take (top l)), rt (b + 1 + top l) (l.drop (top l + 1))⟩]) (enc n (b + 1 + top l) (l.drop (top l + 1)) ++ post) (by rw [hL2]; simp) (by rw [List.length_append, hb]; rfl) (by omega) (by omega) (by omega)
   have i2 := ih (l.drop (top l + 1)) (b + 1 + top l) (d + 1) (pre ++ (⟨(l.getD (top l) zKV).1, (l.getD (top l) zKV).2, rt (b + 1) (l.take (top l)), rt (b + 1 + top l) (l.drop (top l + 1))⟩ :: enc n (b + 1) (l.take (top l)))) post (by rw [hL2]; simp) (by rw [List.length_append, List.length_cons, hb, l1, hlt]; omega) (by omega) (by omega) (by omega)
   have hx : rd_T71 L (b : Int) = ⟨(l.getD (top l) zKV).1, (l.getD (top l) zKV).2, rt (b + 1) (l.take (top l)), rt (b + 1 + top l) (l.drop (top l + 1))⟩ := by
    rw [hL2, ← hb]
    exact at_pre _ _ _
   have hbl : b < L.length := by rw [hL2, List.length_append, hb]; simp
   have hrt : ∀ (c : Nat) (m : List KV), b < c → (rt c m = -1 ∨ (b : Int) < rt c m) := by
    intro c m hc
    unfold rt
    split
    ·
     exact .inl rfl
    ·
     exact .inr (by omega)
   rw [rt_pos b l hz]
   refine p_go L hL _ _ _ (fun h => by omega) (fun _ h => absurd ⟨by omega, by omega, by omega⟩ h) (fun _ _ => ?_)
   refine j0_go L _ _ _ ⟨by omega, by omega⟩ (fun bad hbad => ?_)
   rw [hx] at hbad ⊢
   rw [hbad.2 ⟨hrt _ _ (by omega), hrt _ _ (by omega)⟩]
   refine j1_go L d (by omega) _ _ _ _ _ _ i1 i2 (by show ((l.take (top l)).map bkS).length ≤ 60; rw [List.length_map]; omega) (by show ((l.drop (top l + 1)).map bkS).length ≤ 60; rw [List.length_map]; omega) _ (fun _ _ _ => ?_) (fun h => absurd ⟨rfl, rfl, (by show ((l.take (top l)).map bkS).length + ((l.drop (top l + 1)).map bkS).length < 60; rw [List.length_map, List.length_map]; omega)⟩ h)
   show (l.map bkS, true) = ((l.take (top l)).map bkS ++ bkS (l.getD (top l) zKV) :: (l.drop (top l + 1)).map bkS, true)
   congr 1
   conv => lhs; rw [e]
   rw [List.map_append, List.map_cons]

theorem l3_ev (ps : List Pb) (T : List Lb) (hT : T.length ≤ 60) (hl : T.length = L.length) (r : Ans) (hg : T = L → r = (ps, true)) (hb : T ≠ L → r = F0) : Evt (fun k => spec_l7Of.l3 k ps (T.length : Int) 0 L T) r := by
 have key : ∀ (m i : Nat), i + m = T.length → ∀ r : Ans, (T.drop i = L.drop i → r = (ps, true)) → (T.drop i ≠ L.drop i → r = F0) → Evt (fun k => spec_l7Of.l3 k ps (T.length : Int) (i : Int) L T) r := by
  intro m
  induction m with
  | zero =>
   intro i hi r h1 h2
   refine (Evt.step (fun k => spec_l7Of.l3.eq_2 _ _ _ _ _ k) (Evt.neg (by omega) (Evt.const _))).eq (h1 ?_).symm
   rw [List.drop_eq_nil_of_le (by omega), List.drop_eq_nil_of_le (by omega)]
  | succ m ih =>
   intro i hi r h1 h2
   have q1 : i < T.length := by omega
   have q2 : i < L.length := by omega
   have e : T.drop i = L.drop i ↔ (T[i] = L[i] ∧ T.drop (i + 1) = L.drop (i + 1)) := by
    rw [List.drop_eq_getElem_cons q1, List.drop_eq_getElem_cons q2, List.cons.injEq]
   refine Evt.step (fun k => spec_l7Of.l3.eq_2 _ _ _ _ _ k) (Evt.pos (by omega) (Evt.pos (by omega) (Evt.pos (by omega) (Evt.pos (by omega) ?_))))
   rw [rdL T i q1, rdL L i q2, limb_ne]
   by_cases ht : tup T[i] = tup L[i]
   ·
    refine Evt.neg (by simp [ht]) ?_
    rw [w64 (n := (i : Int) + 1) (by omega) (by omega), show (i : Int) + 1 = ((i + 1 : Nat) : Int) by omega]
    exact ih (i + 1) (by omega) r (fun h => h1 (e.2 ⟨tup_inj ht, h⟩)) (fun h => h2 (fun h3 => h (e.1 h3).2))
   ·
    refine Evt.pos (by simp [ht]) ((Evt.const _).eq ?_)
    exact (h2 (fun h3 => ht (by rw [(e.1 h3).1]))).symm
 exact key T.length 0 (by omega) r hg hb
theorem l2_ev (ps : List Pb) (hp : ps.length ≤ 60) (R : Ans) (hR : (∀ j, j < ps.length → okV (ps.map BuS.kv) j = true) → Evt (fun k => (spec_l7Treap.f ps).bind fun t181 => (spec_l7Of.l3 k ps (t181.length : Int) 0 L t181)) R) (r : Ans)
  (hg : (∀ j, j < ps.length → okV (ps.map BuS.kv) j = true) → r = R) (hb : (¬ ∀ j, j < ps.length → okV (ps.map BuS.kv) j = true) → r = F0) : Evt (fun k => spec_l7Of.l2 k ps ps (ps.length : Int) 0 L) r := by
 have key : ∀ (m i : Nat), i + m = ps.length → (∀ j, j < i → okV (ps.map BuS.kv) j = true) → Evt (fun k => spec_l7Of.l2 k ps ps (ps.length : Int) (i : Int) L) r := by
  intro m
  induction m with
  | zero =>
   intro i hi hj
   obtain rfl : i = ps.length := by omega
   have h1 := hg hj
   rw [h1]
   exact Evt.step (fun k => spec_l7Of.l2.eq_2 _ _ _ _ _ k) (Evt.neg (by omega) (hR hj))
  | succ m ih =>
   intro i hi hj
   have q1 : i < ps.length := by omega
   have hbad : okV (ps.map BuS.kv) i = false → r = F0 := fun h => hb (fun h2 => by rw [h2 i q1] at h; cases h)
   have hnext : okV (ps.map BuS.kv) i = true → Evt (fun k => spec_l7Of.l2 k ps ps (ps.length : Int) ((i : Int) + 1) L) r := by
    intro h
    rw [show (i : Int) + 1 = ((i + 1 : Nat) : Int) by omega]
    refine ih (i + 1) (by omega) (fun j h2 => ?_)
    rcases Nat.lt_or_ge j i with h3 | h3
    ·
     exact hj j h3
    ·
     obtain rfl : j = i := by omega
     exact h
   unfold okV at hbad hnext
   refine Evt.step (fun k => spec_l7Of.l2.eq_2 _ _ _ _ _ k) (Evt.pos (by omega) (Evt.pos (by omega) (Evt.pos (by omega) ?_)))
   rw [(sV ps i q1).1, (sV ps i q1).2, w64 (n := (i : Int) + 1) (by omega) (by omega)]
   refine Evt.bind (Evt.of fun _ => in_eq _ _ _) ?_
   by_cases c1 : 1 ≤ ((ps.map BuS.kv).getD i zKV).1.size ∧ ((ps.map BuS.kv).getD i zKV).1.size ≤ 40
   ·
    rw [decide_eq_true c1] at hbad hnext
    refine Evt.pos (decide_eq_true (by omega)) ?_
    by_cases c2 : ((ps.map BuS.kv).getD i zKV).2.size ≤ 60
    ·
     rw [decide_eq_true c2] at hbad hnext
     refine Evt.neg (by omega) ?_
     by_cases c3 : i = 0
     ·
      rw [decide_eq_true c3] at hnext
      exact Evt.neg (by omega) (hnext rfl)
     ·
      rw [decide_eq_false c3] at hbad hnext
      simp only [Bool.true_and, Bool.false_or] at hbad hnext
      rw [w64 (n := (i : Int) - 1) (by omega) (by omega), show (i : Int) - 1 = ((i - 1 : Nat) : Int) by omega]
      refine Evt.pos (by omega) (Evt.pos (by omega) (Evt.pos (by omega) ?_))
      rw [(sV ps (i - 1) (by omega)).1]
      cases h : Op.bytesLess ((ps.map BuS.kv).getD (i - 1) zKV).1.toList ((ps.map BuS.kv).getD i zKV).1.toList with
      | true => exact Evt.pos rfl (hnext h)
      | false =>
       refine (Evt.neg (by decide) (Evt.const _)).eq (hbad h).symm
    ·
     rw [decide_eq_false c2] at hbad
     refine (Evt.pos (by omega) (Evt.const _)).eq (hbad (by simp)).symm
   ·
    rw [decide_eq_false c1] at hbad
    refine (Evt.neg (by simp only [decide_eq_true_eq]; omega) (Evt.const _)).eq (hbad (by simp)).symm
 exact key ps.length 0 (by omega) (fun j hj => absurd hj (Nat.not_lt_zero _))
/-- Behind the first loop. -/
theorem tail_ev (hL : L.length ≤ 60) (q : Ans) (hq : Evt (fun k => spec_l7Pairs.f k L 0 1) q) (hq60 : q.1.length ≤ 60) (r : Ans) (hg : q.2 = true → Good L (q.1.map BuS.kv) → r = (q.1, true)) (hb : ¬ (q.2 = true ∧ Good L (q.1.map BuS.kv)) → r = F0) :
  Evt (fun k => (spec_l7Pairs.f k L 0 1).bind fun bt173 => (if bt173.2 = true then (spec_l7Of.j2 k bt173.1 ((bt173.1.length : Int) != (L.length : Int)) L) else (spec_l7Of.j2 k bt173.1 true L))) r := by
 refine Evt.bind hq ?_
 have hj : ¬ (q.2 = true ∧ Good L (q.1.map BuS.kv)) → Evt (fun k => spec_l7Of.j2 k q.1 true L) r := fun h => by
  rw [hb h]
  exact Evt.step (fun k => spec_l7Of.j2.eq_2 _ _ _ k) (Evt.pos rfl (Evt.const _))
 by_cases c1 : q.2 = true
 ·
  refine Evt.pos c1 ?_
  by_cases c2 : q.1.length = L.length
  ·
   rw [show ((q.1.length : Int) != (L.length : Int)) = false by simp [c2]]
   refine Evt.step (fun k => spec_l7Of.j2.eq_2 _ _ _ k) (Evt.neg (by decide) ?_)
   have hT := enc_len q.1.length 0 (q.1.map BuS.kv) (by rw [List.length_map]; exact Nat.le_refl _)
   rw [List.length_map] at hT
   refine l2_ev L q.1 hq60 r (fun hok => ?_) r (fun _ => rfl) (fun hok => hb (fun h => hok (fun j hj => h.2.2.1 j (by rw [List.length_map]; exact hj))))
   have ef : spec_l7Treap.f q.1 = some (enc q.1.length 0 (q.1.map BuS.kv)) := by
    unfold spec_l7Treap.f
    rw [if_pos]
    refine ⟨by omega, fun x hx => ?_⟩
    obtain ⟨i, hi, rfl⟩ := List.mem_iff_getElem.1 hx
    have h1 := okV_size (hok i hi)
    have h2 : ((q.1.map BuS.kv).getD i zKV).1 = q.1[i].f0 := by simp [hi, BuS.kv]
    rw [h2] at h1
    omega
   rw [ef]
   refine Evt.bsome ?_
   have goodiff : enc q.1.length 0 (q.1.map BuS.kv) = L → Good L (q.1.map BuS.kv) := fun h => ⟨by rw [List.length_map]; exact hq60, fun i hi => hok i (by rw [List.length_map] at hi; exact hi), by rw [List.length_map]; exact h⟩
   exact l3_ev L q.1 _ (by omega) (by omega) r (fun h => hg c1 (goodiff h)) (fun h => hb (fun h2 => h (by have := h2.2.2.2; rw [List.length_map] at this; exact this)))
  ·
   rw [show ((q.1.length : Int) != (L.length : Int)) = true by simp; omega]
   refine hj (fun h => c2 ?_)
   have := h.2.len
   rw [List.length_map] at this
   exact this
 ·
  exact Evt.neg c1 (hj (fun h => c1 h.1))

abbrev Tail (r : Ans) : Prop := Evt (fun k => (spec_l7Pairs.f k L 0 1).bind fun bt173 => (if bt173.2 = true then (spec_l7Of.j2 k bt173.1 ((bt173.1.length : Int) != (L.length : Int)) L) else (spec_l7Of.j2 k bt173.1 true L))) r
theorem l1_step (hL : L.length ≤ 60) (i : Nat) (hi : i < L.length) (cs : List Int) (j : Nat) (hj : j < cs.length) (hcs : cs.length ≤ 60) (uses : List Bool) (hu : uses.length = L.length) (r : Ans) (c : Int) (hc : c = rd cs (j : Int)) (h1 : c = -1 → Evt (fun k => spec_l7Of.l1 k (L.length : Int) uses (i : Int) L (L.length : Int) (i : Int) cs (cs.length : Int) ((j + 1 : Nat) : Int) L) r)
  (h2 : c ≠ -1 → ((i : Int) < c ∧ c < (L.length : Int) ∧ rdOf false uses c = false) → Evt (fun k => spec_l7Of.l1 k (L.length : Int) (uses.set c.toNat true) (i : Int) L (L.length : Int) (i : Int) cs (cs.length : Int) ((j + 1 : Nat) : Int) L) r)
  (h3 : c ≠ -1 → ¬ ((i : Int) < c ∧ c < (L.length : Int) ∧ rdOf false uses c = false) → r = F0) :
  Evt (fun k => spec_l7Of.l1 k (L.length : Int) uses (i : Int) L (L.length : Int) (i : Int) cs (cs.length : Int) (j : Int) L) r := by
 refine Evt.step (fun k => spec_l7Of.l1.eq_2 _ _ _ _ _ _ _ _ _ _ k) (Evt.pos (by omega) (Evt.pos (by omega) (Evt.pos (by omega) ?_)))
 rw [← hc, w64 (n := (j : Int) + 1) (by omega) (by omega), show (j : Int) + 1 = ((j + 1 : Nat) : Int) by omega, w64 (n := (i : Int) + 1) (by omega) (by omega), w64 (n := (L.length : Int) - 1) (by omega) (by omega)]
 by_cases c1 : c = -1
 ·
  exact Evt.pos c1 (h1 c1)
 ·
  refine Evt.neg c1 (Evt.bind (Evt.of fun _ => in_eq _ _ _) ?_)
  by_cases c2 : (i : Int) + 1 ≤ c ∧ c ≤ (L.length : Int) - 1
  ·
   refine Evt.pos (decide_eq_true c2) (Evt.pos (by omega) (Evt.pos (by omega) ?_))
   by_cases c3 : rdOf false uses c = true
   ·
    refine (Evt.pos c3 (Evt.const _)).eq ?_
    exact (h3 c1 (fun h => by rw [h.2.2] at c3; cases c3)).symm
   ·
    exact Evt.neg c3 (h2 c1 ⟨by omega, by omega, by simpa using c3⟩)
  ·
   refine (Evt.neg (by simp only [decide_eq_true_eq]; exact c2) (Evt.const _)).eq ?_
   exact (h3 c1 (fun h => c2 ⟨by omega, by omega⟩)).symm
theorem l1_end (i : Nat) (hi : i < L.length) (hL : L.length ≤ 60) (cs : List Int) (uses : List Bool) (r : Ans) (h : Evt (fun k => spec_l7Of.l0 k (L.length : Int) uses L (L.length : Int) ((i + 1 : Nat) : Int) L) r) (j : Nat) (hj : j = cs.length) :
  Evt (fun k => spec_l7Of.l1 k (L.length : Int) uses (i : Int) L (L.length : Int) (i : Int) cs (cs.length : Int) (j : Int) L) r := by
 refine Evt.step (fun k => spec_l7Of.l1.eq_2 _ _ _ _ _ _ _ _ _ _ k) (Evt.neg (by omega) ?_)
 rw [w64 (n := (i : Int) + 1) (by omega) (by omega), show (i : Int) + 1 = ((i + 1 : Nat) : Int) by omega]
 exact h
theorem l0_step (i : Nat) (hi : i < L.length) (uses : List Bool) (r : Ans) (h : Evt (fun k => spec_l7Of.l1 k (L.length : Int) uses (i : Int) L (L.length : Int) (i : Int) [(rd_T71 L (i : Int)).f2, (rd_T71 L (i : Int)).f3] 2 0 L) r) :
  Evt (fun k => spec_l7Of.l0 k (L.length : Int) uses L (L.length : Int) (i : Int) L) r :=
 Evt.step (fun k => spec_l7Of.l0.eq_2 _ _ _ _ _ _ k) (Evt.pos (by omega) (Evt.pos (by omega) (Evt.pos (by omega) (Evt.bsome h))))
theorem l0_end (uses : List Bool) (r : Ans) (h : Tail L r) : Evt (fun k => spec_l7Of.l0 k (L.length : Int) uses L (L.length : Int) (L.length : Int) L) r :=
 Evt.step (fun k => spec_l7Of.l0.eq_2 _ _ _ _ _ _ k) (Evt.neg (by omega) h)
theorem l0_any (hL : L.length ≤ 60) (r0 : Ans) (h0 : Tail L r0) : ∀ (m i : Nat), i + m = L.length → ∀ uses : List Bool, uses.length = L.length → ∃ r, Evt (fun k => spec_l7Of.l0 k (L.length : Int) uses L (L.length : Int) (i : Int) L) r ∧ (r = F0 ∨ r = r0) := by
 intro m
 induction m with
 | zero =>
  intro i hi uses hu
  obtain rfl : i = L.length := by omega
  exact ⟨r0, l0_end L uses r0 h0, .inr rfl⟩
 | succ m ih =>
  intro i hi uses hu
  have hil : i < L.length := by omega
  obtain ⟨x, hx⟩ : ∃ x, x = rd_T71 L (i : Int) := ⟨_, rfl⟩
  have s2 : ∀ us : List Bool, us.length = L.length → ∃ r, Evt (fun k => spec_l7Of.l1 k (L.length : Int) us (i : Int) L (L.length : Int) (i : Int) [x.f2, x.f3] (([x.f2, x.f3] : List Int).length : Int) ((2 : Nat) : Int) L) r ∧ (r = F0 ∨ r = r0) := by
   intro us hus
   obtain ⟨r, h, h2⟩ := ih (i + 1) (by omega) us hus
   exact ⟨r, l1_end L i hil hL _ us r h 2 rfl, h2⟩
  have st : ∀ j : Nat, j < 2 → (∀ us : List Bool, us.length = L.length → ∃ r, Evt (fun k => spec_l7Of.l1 k (L.length : Int) us (i : Int) L (L.length : Int) (i : Int) [x.f2, x.f3] (([x.f2, x.f3] : List Int).length : Int) ((j + 1 : Nat) : Int) L) r ∧ (r = F0 ∨ r = r0)) → ∀ us : List Bool, us.length = L.length → ∃ r, Evt (fun k => spec_l7Of.l1 k (L.length : Int) us (i : Int) L (L.length : Int) (i : Int) [x.f2, x.f3] (([x.f2, x.f3] : List Int).length : Int) (j : Int) L) r ∧ (r = F0 ∨ r = r0) := by
   intro j hj hn us hus
   obtain ⟨c, hc⟩ : ∃ c, c = rd [x.f2, x.f3] (j : Int) := ⟨_, rfl⟩
   by_cases c1 : c = -1
   ·
    obtain ⟨r, h, h2⟩ := hn us hus
    exact ⟨r, l1_step L hL i hil [x.f2, x.f3] j hj (by simp) us hus r c hc (fun _ => h) (fun h => absurd c1 h) (fun h => absurd c1 h), h2⟩
   ·
    by_cases c2 : ((i : Int) < c ∧ c < (L.length : Int) ∧ rdOf false us c = false)
    ·
     obtain ⟨r, h, h2⟩ := hn (us.set c.toNat true) (by rw [List.length_set]; exact hus)
     exact ⟨r, l1_step L hL i hil [x.f2, x.f3] j hj (by simp) us hus r c hc (fun h => absurd h c1) (fun _ _ => h) (fun _ h => absurd c2 h), h2⟩
    ·
     exact ⟨F0, l1_step L hL i hil [x.f2, x.f3] j hj (by simp) us hus F0 c hc (fun h => absurd h c1) (fun _ h => absurd h c2) (fun _ _ => rfl), .inl rfl⟩
  obtain ⟨r, h, h2⟩ := st 0 (by omega) (st 1 (by omega) s2) uses hu
  refine ⟨r, l0_step L i hil uses r ?_, h2⟩
  rw [← hx]
  exact h
/-- Who hangs below. -/
def chs (x : Lb) : List Int := [x.f2, x.f3].filter (fun c => decide (c ≠ -1))
def U (n : Nat) (seen : List Int) : List Bool := (List.range n).map fun (j : Nat) => decide ((j : Int) ∈ seen)
theorem U_len (n : Nat) (seen : List Int) : (U n seen).length = n := by simp [U]
theorem U_set (n : Nat) (seen : List Int) (c : Int) (h0 : 0 ≤ c) (h1 : c < (n : Int)) : (U n seen).set c.toNat true = U n (seen ++ [c]) := by
 apply List.ext_getElem?
 intro j
 rw [List.getElem?_set]
 unfold U
 by_cases hj : c.toNat = j
 ·
  subst hj
  rw [if_pos rfl]
  have : c.toNat < n := by omega
  simp [this, Int.toNat_of_nonneg h0]
 ·
  rw [if_neg hj]
  simp only [List.getElem?_map]
  by_cases hjn : j < n
  ·
   rw [List.getElem?_range hjn]
   simp only [Option.map_some]
   congr 1
   refine decide_eq_decide.2 ?_
   rw [List.mem_append, List.mem_singleton]
   constructor
   ·
    exact .inl
   ·
    rintro (h | h)
    ·
     exact h
    ·
     omega
  ·
   rw [List.getElem?_eq_none (by simpa using hjn)]
   rfl
theorem U_rd (n : Nat) (seen : List Int) (c : Int) (h0 : 0 ≤ c) (h1 : c < (n : Int)) (h : c ∉ seen) : rdOf false (U n seen) c = false := by
 unfold rdOf U
 have : c.toNat < n := by omega
 simp [this, Int.toNat_of_nonneg h0, h]
theorem l0_good (hL : L.length ≤ 60) (r0 : Ans) (h0 : Tail L r0) (hb : ∀ (i : Nat) (h : i < L.length), ∀ c ∈ chs L[i], (i : Int) < c ∧ c < (L.length : Int)) (hn : (L.flatMap chs).Nodup) :
  ∀ (m i : Nat), i + m = L.length → Evt (fun k => spec_l7Of.l0 k (L.length : Int) (U L.length ((L.take i).flatMap chs)) L (L.length : Int) (i : Int) L) r0 := by
 intro m
 induction m with
 | zero =>
  intro i hi
  obtain rfl : i = L.length := by omega
  exact l0_end L _ r0 h0
 | succ m ih =>
  intro i hi
  have hil : i < L.length := by omega
  have hnext := ih (i + 1) (by omega)
  obtain ⟨x, hx⟩ : ∃ x, x = rd_T71 L (i : Int) := ⟨_, rfl⟩
  have hx2 : L[i] = x := by rw [hx, rdL L i hil]
  have hbx := hb i hil
  have htk : L.take (i + 1) = L.take i ++ [x] := by rw [List.take_add_one, List.getElem?_eq_getElem hil, hx2]; rfl
  have hnd : ((L.take i).flatMap chs ++ chs x).Nodup := by
   have e : L.flatMap chs = ((L.take i).flatMap chs ++ chs x) ++ (L.drop (i + 1)).flatMap chs := by
    conv => lhs; rw [← List.take_append_drop (i + 1) L, htk]
    simp
   rw [e] at hn
   exact (List.nodup_append.1 hn).1
  rw [htk, List.flatMap_append] at hnext
  rw [hx2] at hbx
  generalize (L.take i).flatMap chs = seen at hnd hnext ⊢
  refine l0_step L i hil _ r0 ?_
  rw [← hx]
  have hend := fun us h => l1_end L i hil hL [x.f2, x.f3] us r0 h 2 rfl
  have hcx : chs x = [x.f2].filter (fun c => decide (c ≠ -1)) ++ [x.f3].filter (fun c => decide (c ≠ -1)) := by
   unfold chs
   rw [← List.filter_append]
   rfl
  have hfm : [x].flatMap chs = chs x := by simp
  rw [hfm] at hnext
  have one : ∀ (c : Int) (sn : List Int), (∀ d ∈ [c].filter (fun c => decide (c ≠ -1)), (i : Int) < d ∧ d < (L.length : Int) ∧ d ∉ sn) → ∀ (j : Nat) (hj : j < 2), c = rd [x.f2, x.f3] (j : Int) → Evt (fun k => spec_l7Of.l1 k (L.length : Int) (U L.length (sn ++ [c].filter (fun c => decide (c ≠ -1)))) (i : Int) L (L.length : Int) (i : Int) [x.f2, x.f3] (([x.f2, x.f3] : List Int).length : Int) ((j + 1 : Nat) : Int) L) r0 → Evt (fun k => spec_l7Of.l1 k (L.length : Int) (U L.length sn) (i : Int) L (L.length : Int) (i : Int) [x.f2, x.f3] (([x.f2, x.f3] : List Int).length : Int) (j : Int) L) r0 := by
   intro c sn hd j hj hc h
   by_cases c1 : c = -1
   ·
    have e : [c].filter (fun c => decide (c ≠ -1)) = [] := by simp [c1]
    rw [e, List.append_nil] at h
    exact l1_step L hL i hil [x.f2, x.f3] j hj (by simp) _ (U_len _ _) r0 c hc (fun _ => h) (fun h => absurd c1 h) (fun h => absurd c1 h)
   ·
    have e : [c].filter (fun c => decide (c ≠ -1)) = [c] := by simp [c1]
    rw [e] at h hd
    have hd := hd c (List.mem_singleton.2 rfl)
    have hok : (i : Int) < c ∧ c < (L.length : Int) ∧ rdOf false (U L.length sn) c = false := ⟨hd.1, hd.2.1, U_rd _ _ _ (by omega) hd.2.1 hd.2.2⟩
    refine l1_step L hL i hil [x.f2, x.f3] j hj (by simp) _ (U_len _ _) r0 c hc (fun h => absurd h c1) (fun _ _ => ?_) (fun _ h => absurd hok h)
    rw [U_set _ _ _ (by omega) hd.2.1]
    exact h
  rw [hcx] at hbx hnd hnext
  have hn2 := List.nodup_append.1 hnd
  have hn3 := List.nodup_append.1 hn2.2.1
  have a1 := one x.f2 seen (fun d hd => ⟨(hbx d (List.mem_append_left _ hd)).1, (hbx d (List.mem_append_left _ hd)).2, fun h => hn2.2.2 d h d (List.mem_append_left _ hd) rfl⟩) 0 (by omega) rfl
  refine a1 ?_
  refine one x.f3 _ (fun d hd => ⟨(hbx d (List.mem_append_right _ hd)).1, (hbx d (List.mem_append_right _ hd)).2, fun h => ?_⟩) 1 (by omega) rfl ?_
  ·
   rcases List.mem_append.1 h with h | h
   ·
    exact hn2.2.2 d h d (List.mem_append_right _ hd) rfl
   ·
    exact hn3.2.2 d h d hd rfl
  ·
   rw [List.append_assoc]
   exact hend _ hnext
end
/-- Who hangs below in limbs of rising keys. -/
theorem enc_chs : ∀ (n : Nat) (l : List KV) (b : Nat), l.length ≤ n → (∀ (i : Nat) (h : i < (enc n b l).length), ∀ c ∈ chs (enc n b l)[i], ((b + i : Nat) : Int) < c ∧ c < ((b + l.length : Nat) : Int)) ∧ ((enc n b l).flatMap chs).Nodup := by
 intro n
 induction n with
 | zero => intro l b hn; exact ⟨fun i h => absurd h (Nat.not_lt_zero _), List.nodup_nil⟩
 | succ n ih =>
  intro l b hn
  by_cases hz : l.length = 0
  ·
   obtain rfl : l = [] := List.eq_nil_of_length_eq_zero hz
   rw [enc_nil]
   exact ⟨fun i h => absurd h (Nat.not_lt_zero _), List.nodup_nil⟩
  ·
   have ht := top_lt l (by omega)
   rw [enc_cons n b l hz]
   have hlt : (l.take (top l)).length = top l := by rw [List.length_take]; omega
   have hld : (l.drop (top l + 1)).length = l.length - top l - 1 := by rw [List.length_drop]; omega
   have l1 := enc_len n (b + 1) (l.take (top l)) (by omega)
   have l2 := enc_len n (b + 1 + top l) (l.drop (top l + 1)) (by omega)
   obtain ⟨p1, q1⟩ := ih (l.take (top l)) (b + 1) (by omega)
   obtain ⟨p2, q2⟩ := ih (l.drop (top l + 1)) (b + 1 + top l) (by omega)
   generalize enc n (b + 1) (l.take (top l)) = E1 at *
   generalize enc n (b + 1 + top l) (l.drop (top l + 1)) = E2 at *
   generalize (l.getD (top l) zKV).1 = ky
   generalize (l.getD (top l) zKV).2 = vy
   have hc : ∀ c ∈ chs ⟨ky, vy, rt (b + 1) (l.take (top l)), rt (b + 1 + top l) (l.drop (top l + 1))⟩, (c = ((b + 1 : Nat) : Int) ∧ 0 < top l) ∨ (c = ((b + 1 + top l : Nat) : Int) ∧ 0 < l.length - top l - 1) := by
    intro c hc
    unfold chs at hc
    rw [List.mem_filter] at hc
    obtain ⟨hc, hne⟩ := hc
    have hne := of_decide_eq_true hne
    simp only [List.mem_cons, List.not_mem_nil, or_false] at hc
    rcases hc with rfl | rfl
    ·
     unfold rt at hne ⊢
     split at hne
     ·
      exact absurd rfl hne
     ·
      rename_i h; rw [if_neg h]; exact .inl ⟨rfl, by omega⟩
    ·
     unfold rt at hne ⊢
     split at hne
     ·
      exact absurd rfl hne
     ·
      rename_i h; rw [if_neg h]; exact .inr ⟨rfl, by omega⟩
   have m1 : ∀ c ∈ E1.flatMap chs, ((b + 1 : Nat) : Int) < c ∧ c < ((b + 1 + top l : Nat) : Int) := by
    intro c hc
    obtain ⟨x, hx, hcx⟩ := List.mem_flatMap.1 hc
    obtain ⟨i, hi, rfl⟩ := List.mem_iff_getElem.1 hx
    have := p1 i hi c hcx
    omega
   have m2 : ∀ c ∈ E2.flatMap chs, ((b + 1 + top l : Nat) : Int) < c ∧ c < ((b + l.length : Nat) : Int) := by
    intro c hc
    obtain ⟨x, hx, hcx⟩ := List.mem_flatMap.1 hc
    obtain ⟨i, hi, rfl⟩ := List.mem_iff_getElem.1 hx
    have := p2 i hi c hcx
    omega
   constructor
   ·
    intro i hi c hci
    cases i with
    | zero =>
     rw [List.getElem_cons_zero] at hci
     rcases hc c hci with ⟨rfl, h⟩ | ⟨rfl, h⟩ <;> omega
    | succ i =>
     rw [List.getElem_cons_succ] at hci
     by_cases h : i < E1.length
     ·
      rw [List.getElem_append_left h] at hci
      have := p1 i h c hci
      omega
     ·
      rw [List.getElem_append_right (by omega)] at hci
      have := p2 _ _ c hci
      omega
   ·
    rw [List.flatMap_cons, List.flatMap_append]
    refine List.nodup_append.2 ⟨?_, List.nodup_append.2 ⟨q1, q2, fun a ha c hcc h => ?_⟩, fun a ha c hcc h => ?_⟩
    ·
     unfold chs
     show (List.filter _ [rt (b + 1) (l.take (top l)), rt (b + 1 + top l) (l.drop (top l + 1))]).Nodup
     by_cases h1 : (l.take (top l)).length = 0
     ·
      rw [show rt (b + 1) (l.take (top l)) = -1 from if_pos h1]
      generalize rt (b + 1 + top l) (l.drop (top l + 1)) = y
      by_cases hy : y = -1 <;> simp [List.filter_cons, hy]
     ·
      rw [rt_pos (b + 1) _ h1]
      by_cases h2 : (l.drop (top l + 1)).length = 0
      ·
       rw [show rt (b + 1 + top l) (l.drop (top l + 1)) = -1 from if_pos h2]
       generalize ((b + 1 : Nat) : Int) = y
       by_cases hy : y = -1 <;> simp [List.filter_cons, hy]
      ·
       rw [rt_pos (b + 1 + top l) _ h2]
       have hne : ((b + 1 : Nat) : Int) ≠ ((b + 1 + top l : Nat) : Int) := by omega
       refine List.Pairwise.filter _ ?_
       simp only [List.pairwise_cons, List.mem_singleton, List.not_mem_nil, List.Pairwise.nil, and_true]
       refine ⟨fun a ha => by rw [ha]; exact hne, fun a ha => absurd ha id⟩
    ·
     subst h
     have := m1 a ha
     have := m2 a hcc
     omega
    ·
     subst h
     rcases List.mem_append.1 hcc with hcc | hcc
     ·
      have := m1 a hcc
      rcases hc a ha with ⟨h, _⟩ | ⟨h, _⟩ <;> omega
     ·
      have := m2 a hcc
      rcases hc a ha with ⟨h, _⟩ | ⟨h, _⟩ <;> omega
end Go.Proofs.Ytjknkeipginpcaa.TrG
end

section
namespace Go.Proofs.Ytjknkeipginpcaa.TrG
set_option linter.unusedVariables false
open Go.RowKit Go.Proofs.Ytjknkeipginpcaa.PQ Go.Proofs.YtjknkeipginpcaaW.PrintWords Go.Proofs.Ytjknkeipginpcaa.Pre Go.Proofs.Ytjknkeipginpcaa.Tr Go.Proofs.Ytjknkeipginpcaa.Pr Go.Proofs.Ytjknkeipginpcaa.Po
theorem U_nil (n : Nat) : List.replicate n false = U n [] := by
 apply List.ext_getElem?
 intro j
 unfold U
 by_cases h : j < n
 ·
  simp [h]
 ·
  rw [List.getElem?_eq_none (by simp; omega), List.getElem?_eq_none (by simp; omega)]
theorem of_good {L : List Lb} {l : List KV} (h : Good L l) : Evt (fun k => spec_l7Of.f k L) (l.map bkS, true) := by
 unfold spec_l7Of.f
 have hl := h.len
 have h60 := h.1
 by_cases h0 : L.length = 0
 ·
  obtain rfl : l = [] := List.eq_nil_of_length_eq_zero (by omega)
  exact Evt.pos (by omega) (Evt.const _)
 ·
  refine Evt.neg (by omega) (Evt.neg (by omega) (Evt.pos (by omega) (Evt.pos (by omega) ?_)))
  have hp := p_enc L (by omega) l.length l 0 1 [] [] (by rw [h.2.2]; simp) rfl (Nat.le_refl _) (by omega) (by omega)
  rw [rt_pos 0 l (by omega)] at hp
  have ht := tail_ev L (by omega) _ hp (by simp; omega) (l.map bkS, true) (fun _ _ => rfl) (fun hn => absurd ⟨rfl, by show Good L ((l.map bkS).map BuS.kv); rw [bkS_kv]; exact h⟩ hn)
  have hc := enc_chs l.length l 0 (Nat.le_refl _)
  rw [h.2.2] at hc
  have := l0_good L (by omega) _ ht (fun i hi c hci => by have := hc.1 i hi c hci; omega) hc.2 L.length 0 (by omega)
  rw [Int.toNat_natCast, U_nil]
  exact this
theorem of_bad {L : List Lb} (h : ∀ l, ¬ Good L l) : Evt (fun k => spec_l7Of.f k L) F0 := by
 unfold spec_l7Of.f
 by_cases h0 : L.length = 0
 ·
  obtain rfl : L = [] := List.eq_nil_of_length_eq_zero h0
  exact absurd ⟨Nat.zero_le _, fun i hi => absurd hi (Nat.not_lt_zero _), rfl⟩ (h [])
 ·
  refine Evt.neg (by omega) ?_
  by_cases h60 : L.length > 60
  ·
   exact Evt.pos (by omega) (Evt.const _)
  ·
   refine Evt.neg (by omega) (Evt.pos (by omega) (Evt.pos (by omega) ?_))
   obtain ⟨q, hq, hq60⟩ := p_any L (by omega) 60 0 (by omega)
   have ht := tail_ev L (by omega) q hq hq60 F0 (fun _ h2 => absurd h2 (h _)) (fun _ => rfl)
   obtain ⟨r, hr, h2⟩ := l0_any L (by omega) F0 ht L.length 0 (by omega) (List.replicate ((L.length : Int) : Int).toNat false) (by simp)
   have : r = F0 := h2.elim id id
   rw [this] at hr
   exact hr
/-- Both sides tell the same. -/
theorem both (L : List Lb) : (∃ l, Good L l ∧ ansP L = (l.map bkI, true) ∧ Evt (fun k => spec_l7Of.f k L) (l.map bkS, true)) ∨ ((ansP L).2 = false ∧ (∀ l, ¬ Good L l) ∧ Evt (fun k => spec_l7Of.f k L) ([], false)) := by
 by_cases h : ∃ l, Good L l
 ·
  obtain ⟨l, h⟩ := h
  exact .inl ⟨l, h, ansP_good h, of_good h⟩
 ·
  have h' : ∀ l, ¬ Good L l := fun l hl => h ⟨l, hl⟩
  refine .inr ⟨?_, h', of_bad h'⟩
  cases hb : (ansP L).2 with
  | false => rfl
  | true => exact absurd (ansP_true hb) (h' _)

end Go.Proofs.Ytjknkeipginpcaa.TrG
end

section
namespace Go.Proofs.Ytjknkeipginpcaa.TrG
set_option linter.unusedVariables false
open Go.RowKit Go.Proofs.Ytjknkeipginpcaa.PQ Go.Proofs.YtjknkeipginpcaaW.PrintWords Go.Proofs.Ytjknkeipginpcaa.Pre Go.Proofs.Ytjknkeipginpcaa.Tr Go.Proofs.Ytjknkeipginpcaa.Po Go.Proofs.Ytjknkeipginpcaa.Strs

end Go.Proofs.Ytjknkeipginpcaa.TrG
end

section
namespace Go.Proofs.Ytjknkeipginpcaa.TrG
attribute [local go_sem] Go.Proofs.Ytjknkeipginpcaa.StrO.leq_s Go.Proofs.Ytjknkeipginpcaa.StrO.gtr_s Go.Proofs.Ytjknkeipginpcaa.StrO.geq_s
set_option linter.unusedVariables false
set_option linter.unusedSimpArgs false
open Go.RowKit Go.Proofs.Ytjknkeipginpcaa.PQ Go.Proofs.YtjknkeipginpcaaW.PrintWords Go.Proofs.YtjknkeipginpcaaW.PrintLast Go.Proofs.YtjknkeipginpcaaW.PrintMore Go.Proofs.Ytjknkeipginpcaa.Pre Go.Proofs.Ytjknkeipginpcaa.Tr Go.Proofs.Ytjknkeipginpcaa.Pr Go.Proofs.Ytjknkeipginpcaa.Po
/-- One key against another one. -/
def cpk (a b : ByteArray) : Int := if Op.bytesLess a.toList b.toList = true then -1 else if Op.bytesLess b.toList a.toList = true then 1 else 0
theorem cmpK (a v b : ByteArray) (w : World) : Calls Try.prog 82 #[.agg #[.string a, .string v], .string b] w fun e w' => e = .returned (.int .i64 (cpk a b)) ∧ Below w.heap.size w w' := by
 unfold cpk
 by_cases h1 : Op.bytesLess a.toList b.toList = true
 ·
  rw [if_pos h1]
  go_enter Try.func82, Try.ntmps82
  go_wp2
  go_ret
  exact ⟨rfl, (Below.refl _ _).alloc (Nat.le_refl _) _⟩
 ·
  rw [if_neg h1]
  have h1' : Op.bytesLess a.toList b.toList = false := by simpa using h1
  by_cases h2 : Op.bytesLess b.toList a.toList = true
  ·
   rw [if_pos h2]
   clear h1
   go_enter Try.func82, Try.ntmps82
   go_wp2
   go_ret
   exact ⟨rfl, (Below.refl _ _).alloc (Nat.le_refl _) _⟩
  ·
   rw [if_neg h2]
   have h2' : Op.bytesLess b.toList a.toList = false := by simpa using h2
   clear h1 h2
   go_enter Try.func82, Try.ntmps82
   go_wp2
   go_ret
   exact ⟨rfl, (Below.refl _ _).alloc (Nat.le_refl _) _⟩
set_option maxHeartbeats 1000000 in
set_option maxRecDepth 100000 in
theorem search (l : List Pa) (A : Option Addr) (c : Nat) (key : ByteArray) (p : Nat) (w : World) (hC : Kd.C k80 w A l.length l) (hl : l.length ≤ 1048576) (hp : p ≤ l.length)
  (hm : ∀ i : Nat, i < l.length → Op.bytesLess (rd_T80 l (i : Int)).f0.toList key.toList = decide (i < p)) :
  Calls Try.prog 81 #[.slice A l.length c, .string key, .func (.func 82) #[] #[]] w fun e w' => e = .returned (.tuple #[.int .i64 (p : Int), .bool (decide (p < l.length) && (cpk (rd_T80 l (p : Int)).f0 key == 0))]) ∧ Below w.heap.size w w' := by
 obtain ⟨th, hth⟩ : ∃ th, th = (decide (p < l.length) && (cpk (rd_T80 l (p : Int)).f0 key == 0)) := ⟨_, rfl⟩
 rw [← hth]
 have HTH := aM hth
 have HC := aM hC
 have HM := aM hm
 have HP := aM hp
 have hl2 : (l.length : Int) ≤ 1048576 := by omega
 clear hC hm hp hth
 go_enter Try.func81, Try.ntmps81
 go_wp2
 go_loopg [9, 10] l.length (fun kq v9 v10 w' => ∃ lo hi : Nat, v9 = .int .i64 (lo : Int) ∧ v10 = .int .i64 (hi : Int) ∧ lo ≤ p ∧ p ≤ hi ∧ hi ≤ l.length ∧ kq = hi - lo ∧ Aside0 (Below w.heap.size w w'))
 case atStart => exact ⟨0, l.length, rfl, rfl, Nat.zero_le _, HP.out, Nat.le_refl _, rfl, ⟨Below.refl _ _⟩⟩
 case round =>
  obtain ⟨lo, hi, rfl, rfl, h1, h2, h3, hk, HB⟩ := hrel
  by_cases hlt : lo < hi
  ·
   obtain ⟨m, hm⟩ : ∃ m, m = (lo + hi) / 2 := ⟨_, rfl⟩
   have hml : m < l.length := by omega
   obtain ⟨ad, e, g0, g1⟩ := at_T80 HC.out (m : Int) (by omega) (by omega)
   rw [Int.toNat_natCast] at g0 g1
   subst e
   have hx0 := (HB.out.cell (World.block_lt_of_cell? w _ g0)).trans g0
   have hx1 := (HB.out.cell (World.block_lt_of_cell? w _ g1)).trans g1
   have hless := HM.out m hml
   generalize rd_T80 l (m : Int) = x at *
   have hlt2 : (lo : Int) < (hi : Int) := by omega
   have hhi2 : (hi : Int) ≤ 1048576 := by omega
   have hq : ((lo : Int) + (hi : Int)) / 2 = (m : Int) := by omega
   have hm2 : (m : Int) < (l.length : Int) := by omega
   have HMM := aM hm
   have HKK := aM hk
   have HN := aM (⟨h1, h2, h3, hml⟩ : lo ≤ p ∧ p ≤ hi ∧ hi ≤ l.length ∧ m < l.length)
   have HK := aM (fun W => cmpK x.f0 x.f1 key W)
   unfold cpk at HK
   clear g0 g1 hm hml h1 h2 h3 hk
   by_cases hb : m < p
   ·
    rw [decide_eq_true hb] at hless
    rw [if_pos hless] at HK
    have HBP := aM hb
    clear hless hb
    go_wp2_with (go_at_call 82; go_loud ((with_reducible refine (HK.out _).mono ?_); rintro e W1 ⟨rfl, hb1⟩; have HB1 := aM hb1; clear hb1))
    go_roundg (hi - (m + 1))
    case measure => have := HKK.out; have := HMM.out; have := HN.out; have := HBP.out; omega
    case rel => exact ⟨m + 1, hi, by go_num, rfl, by have := HBP.out; omega, HN.out.2.1, HN.out.2.2.1, rfl, ⟨below_step HB.out HB1.out⟩⟩
   ·
    have HBP := aM hb
    have hn : ¬ Op.bytesLess x.f0.toList key.toList = true := by rw [hless]; simpa using hb
    rw [if_neg hn] at HK
    clear hless hb hn
    by_cases hk2 : Op.bytesLess key.toList x.f0.toList = true
    ·
     rw [if_pos hk2] at HK
     clear hk2
     go_wp2_with (go_at_call 82; go_loud ((with_reducible refine (HK.out _).mono ?_); rintro e W1 ⟨rfl, hb1⟩; have HB1 := aM hb1; clear hb1))
     go_roundg (m - lo)
     case measure => have := HKK.out; have := HMM.out; have := HN.out; have := HBP.out; omega
     case rel => exact ⟨lo, m, rfl, rfl, HN.out.1, by have := HBP.out; omega, by have := HN.out; omega, rfl, ⟨below_step HB.out HB1.out⟩⟩
    ·
     rw [if_neg hk2] at HK
     clear hk2
     go_wp2_with (go_at_call 82; go_loud ((with_reducible refine (HK.out _).mono ?_); rintro e W1 ⟨rfl, hb1⟩; have HB1 := aM hb1; clear hb1))
     go_roundg (m - lo)
     case measure => have := HKK.out; have := HMM.out; have := HN.out; have := HBP.out; omega
     case rel => exact ⟨lo, m, rfl, rfl, HN.out.1, by have := HBP.out; omega, by have := HN.out; omega, rfl, ⟨below_step HB.out HB1.out⟩⟩
  ·
   obtain rfl : lo = p := by omega
   have hge : ¬ ((lo : Int) < (hi : Int)) := by omega
   clear hlt
   by_cases hin : lo < l.length
   ·
    have hth := HTH.out
    rw [decide_eq_true hin, Bool.true_and] at hth
    obtain ⟨ad, e, g0, g1⟩ := at_T80 HC.out (lo : Int) (by omega) (by omega)
    rw [Int.toNat_natCast] at g0 g1
    subst e
    have hx0 := (HB.out.cell (World.block_lt_of_cell? w _ g0)).trans g0
    have hx1 := (HB.out.cell (World.block_lt_of_cell? w _ g1)).trans g1
    generalize rd_T80 l (lo : Int) = x at *
    have hin2 : (lo : Int) < (l.length : Int) := by omega
    have HK := aM (fun W => cmpK x.f0 x.f1 key W)
    obtain ⟨d, hd⟩ : ∃ d, d = cpk x.f0 key := ⟨_, rfl⟩
    rw [← hd] at HK hth
    have HTT := aM hth
    clear hth HTH
    clear g0 g1 h1 h2 h3 hk hd hin
    go_wp2_with (go_at_call 82; go_loud ((with_reducible refine (HK.out _).mono ?_); rintro e W1 ⟨rfl, hb1⟩; have HB1 := aM hb1; clear hb1))
    go_ret2
    exact ⟨by rw [HTT.out]; rfl, below_step HB.out HB1.out⟩
   ·
    have hth := HTH.out
    rw [decide_eq_false hin, Bool.false_and] at hth
    have HTT := aM hth
    clear hth HTH
    have hin2 : ¬ ((lo : Int) < (l.length : Int)) := by omega
    clear hin h1 h2 h3 hk
    go_wp2
    go_ret2
    exact ⟨by rw [HTT.out]; rfl, HB.out⟩
end Go.Proofs.Ytjknkeipginpcaa.TrG
end

section
namespace Go.Proofs.Ytjknkeipginpcaa.TrG
set_option linter.unusedVariables false
set_option linter.unusedSimpArgs false
open Go.RowKit Go.Proofs.Ytjknkeipginpcaa.PQ Go.Proofs.YtjknkeipginpcaaW.PrintWords Go.Proofs.YtjknkeipginpcaaW.PrintLast Go.Proofs.YtjknkeipginpcaaW.PrintMore Go.Proofs.Ytjknkeipginpcaa.Pre Go.Proofs.Ytjknkeipginpcaa.Tr Go.Proofs.Ytjknkeipginpcaa.Pr Go.Proofs.Ytjknkeipginpcaa.Po
def ls (a b : ByteArray) : Bool := Op.bytesLess a.toList b.toList
theorem ls_eq (a b : ByteArray) : ls a b = decide (a.toList < b.toList) := Go.Proofs.bytesLess_eq _ _
theorem ls_irrefl (a : ByteArray) : ls a a = false := by
 rw [ls_eq]
 exact decide_eq_false (List.lt_irrefl _)
theorem ls_trans {a b c : ByteArray} (h1 : ls a b = true) (h2 : ls b c = true) : ls a c = true := by
 rw [ls_eq, decide_eq_true_eq] at *
 exact List.lt_trans h1 h2
theorem ls_tri {a b : ByteArray} (h1 : ls a b = false) (h2 : ls b a = false) : a = b := by
 rw [ls_eq, decide_eq_false_iff_not] at *
 exact Byt.toList_inj (List.le_antisymm (List.not_lt.1 h2) (List.not_lt.1 h1))
theorem ls_asymm {a b : ByteArray} (h : ls a b = true) : ls b a = false := by
 cases hb : ls b a with
 | false => rfl
 | true =>
  have := ls_trans h hb
  rw [ls_irrefl] at this
  cases this
/-- Keys rise. -/
def Ri (l : List KV) : Prop := l.Pairwise (fun a b => ls a.1 b.1 = true)
instance (l : List KV) : Decidable (Ri l) := inferInstanceAs (Decidable (l.Pairwise (fun a b => ls a.1 b.1 = true)))
/-- Where a key stands, or would stand. -/
def plc (l : List KV) (key : ByteArray) : Nat := (l.takeWhile (fun x => ls x.1 key)).length
theorem plc_le (l : List KV) (key : ByteArray) : plc l key ≤ l.length := by
 unfold plc
 exact (List.takeWhile_prefix _).length_le
theorem plc_cons (a : KV) (l : List KV) (key : ByteArray) : plc (a :: l) key = if ls a.1 key = true then plc l key + 1 else 0 := by
 unfold plc
 rw [List.takeWhile_cons]
 split <;> simp
theorem Ri.tail {a : KV} {l : List KV} (h : Ri (a :: l)) : Ri l := (List.pairwise_cons.1 h).2
theorem Ri.head {a : KV} {l : List KV} (h : Ri (a :: l)) : ∀ x ∈ l, ls a.1 x.1 = true := (List.pairwise_cons.1 h).1
/-- Behind that place no key is less. -/
theorem plc_spec : ∀ (l : List KV) (key : ByteArray), Ri l → ∀ i, i < l.length → ls (l.getD i zKV).1 key = decide (i < plc l key)
 | [], key, h, i, hi => absurd hi (Nat.not_lt_zero _)
 | a :: l, key, h, i, hi => by
  rw [plc_cons]
  cases ha : ls a.1 key with
  | true =>
   rw [if_pos rfl]
   cases i with
   | zero => simpa using ha
   | succ i =>
    have := plc_spec l key h.tail i (by simpa using hi)
    simp only [List.getD_cons_succ]
    rw [this]
    refine decide_eq_decide.2 ?_
    omega
  | false =>
   rw [if_neg (by decide)]
   cases i with
   | zero => simpa using ha
   | succ i =>
    have hil : i < l.length := by simpa using hi
    have hm := h.head (l.getD i zKV) (by rw [List.getD_eq_getElem?_getD, List.getElem?_eq_getElem hil]; exact List.getElem_mem hil)
    simp only [List.getD_cons_succ]
    rw [show decide (i + 1 < 0) = false by simp]
    cases hb : ls (l.getD i zKV).1 key with
    | false => rfl
    | true =>
     have := ls_trans hm hb
     rw [ha] at this
     cases this
/-- Whether a key is there. -/
def hsk (l : List KV) (key : ByteArray) : Bool := decide (plc l key < l.length) && decide ((l.getD (plc l key) zKV).1 = key)
theorem cpk_zero (a b : ByteArray) : (cpk a b == 0) = decide (a = b) := by
 unfold cpk
 show ((if ls a b = true then (-1 : Int) else if ls b a = true then 1 else 0) == 0) = _
 cases h1 : ls a b with
 | true =>
  rw [if_pos rfl, decide_eq_false]
  ·
   rfl
  ·
   rintro rfl
   rw [ls_irrefl] at h1
   cases h1
 | false =>
  rw [if_neg (by decide)]
  cases h2 : ls b a with
  | true =>
   rw [if_pos rfl, decide_eq_false]
   ·
    rfl
   ·
    rintro rfl
    rw [ls_irrefl] at h2
    cases h2
  | false =>
   rw [if_neg (by decide), decide_eq_true (ls_tri h1 h2)]
   rfl
theorem ri_of_ok {l : List KV} (h : ∀ i, i < l.length → okV l i = true) : Ri l := by
 have step : ∀ (l : List KV), (∀ i, i + 1 < l.length → ls (l.getD i zKV).1 (l.getD (i + 1) zKV).1 = true) → Ri l := by
  intro l
  induction l with
  | nil => intro _; exact List.Pairwise.nil
  | cons a l ih =>
   intro h
   have ht : Ri l := ih (fun i hi => by simpa using h (i + 1) (by simpa using hi))
   refine List.pairwise_cons.2 ⟨?_, ht⟩
   cases l with
   | nil => simp
   | cons b l =>
    have h0 : ls a.1 b.1 = true := by simpa using h 0 (by simp)
    intro x hx
    rcases List.mem_cons.1 hx with rfl | hx
    ·
     exact h0
    ·
     exact ls_trans h0 (ht.head x hx)
 refine step l (fun i hi => ?_)
 have := h (i + 1) hi
 unfold okV at this
 simp only [Bool.and_eq_true, Bool.or_eq_true, decide_eq_true_eq] at this
 rcases this.2 with h1 | h1
 ·
  omega
 ·
  exact h1
/-- What pairsOf tells rises, whatever it says of the treap. -/
theorem ansP_ri (L : List Lb) : Ri ((ansP L).1.map BuI.kv) ∧ (ansP L).1.length ≤ 60 ∧ ∀ x ∈ (ansP L).1, x.f0.size ≤ 40 ∧ x.f1.size ≤ 60 := by
 have nil : Ri ([].map BuI.kv) ∧ ([] : List Pa).length ≤ 60 ∧ ∀ x ∈ ([] : List Pa), x.f0.size ≤ 40 ∧ x.f1.size ≤ 60 := ⟨List.Pairwise.nil, by simp, by simp⟩
 unfold ansP
 split
 ·
  exact nil
 ·
  rename_i h0
  split
  ·
   exact nil
  ·
   rename_i h60
   split
   ·
    exact nil
   ·
    rename_i ps n2 hp
    split
    ·
     rename_i hn
     split
     ·
      rename_i hok
      have hlen := prs_len L _ _ _ _ _ (by omega) hp
      unfold okP at hok
      have hk : ∀ i, i < ps.length → okAt ps i = true := fun i hi => List.all_eq_true.1 hok i (List.mem_range.2 hi)
      refine ⟨ri_of_ok (fun i hi => ?_), by show ps.length ≤ 60; omega, fun x hx => ?_⟩
      ·
       rw [List.length_map] at hi
       rw [← okAt_V ps i hi]
       exact hk i hi
      ·
       obtain ⟨i, hi, rfl⟩ := List.mem_iff_getElem.1 hx
       have := hk i hi
       unfold okAt at this
       rw [Bool.and_eq_true] at this
       have h1 := of_decide_eq_true this.1
       have e : rd_T80 ps (i : Int) = ps[i] := by
        unfold rd_T80
        have : i < ps.length := hi
        simp [this]
       rw [e] at h1
       show ps[i].f0.size ≤ 40 ∧ ps[i].f1.size ≤ 60
       omega
     ·
      exact nil
    ·
     exact nil
theorem placeOf (l : List Pa) (A : Option Addr) (c : Nat) (key : ByteArray) (w : World) (hC : Kd.C k80 w A l.length l) (hl : l.length ≤ 1048576) (hr : Ri (l.map BuI.kv)) :
  Calls Try.prog 61 #[.slice A l.length c, .string key] w fun e w' => e = .returned (.tuple #[.int .i64 ((plc (l.map BuI.kv) key : Nat) : Int), .bool (hsk (l.map BuI.kv) key)]) ∧ Below w.heap.size w w' := by
 have hp := plc_le (l.map BuI.kv) key
 rw [List.length_map] at hp
 have e0 : ∀ i : Nat, i < l.length → (rd_T80 l (i : Int)).f0 = ((l.map BuI.kv).getD i zKV).1 := fun i hi => ((BuI.kv_key l i hi).1).symm
 have hs := search l A c key (plc (l.map BuI.kv) key) w hC hl hp (fun i hi => by
  rw [e0 i hi]
  exact plc_spec _ _ hr i (by rw [List.length_map]; exact hi))
 have et : (decide (plc (l.map BuI.kv) key < l.length) && (cpk (rd_T80 l ((plc (l.map BuI.kv) key : Nat) : Int)).f0 key == 0)) = hsk (l.map BuI.kv) key := by
  unfold hsk
  rw [cpk_zero, List.length_map]
  by_cases h : plc (l.map BuI.kv) key < l.length
  ·
   rw [e0 _ h]
  ·
   rw [decide_eq_false h, Bool.false_and, Bool.false_and]
 rw [et] at hs
 have HS := aM hs
 clear hs et e0 hp hr hC
 generalize plc (l.map BuI.kv) key = p at *
 generalize hsk (l.map BuI.kv) key = th at *
 go_enter Try.func61, Try.ntmps61
 go_wp2_with (go_at_call 81; go_loud ((with_reducible refine HS.out.mono ?_); rintro e W1 ⟨rfl, hb1⟩; have HB1 := aM hb1; clear hb1))
 go_ret2
 exact ⟨rfl, HB1.out⟩
end Go.Proofs.Ytjknkeipginpcaa.TrG
end

section
namespace Go.Proofs.Ytjknkeipginpcaa.PQ
open Go.RowKit Go.Proofs.YtjknkeipginpcaaW.PrintWords Go.Proofs.YtjknkeipginpcaaW.PrintLast Go.Proofs.YtjknkeipginpcaaW.PrintMore
attribute [local go_sem] max2_int min2_int max_two min_two max_three min_three max_four min_four
set_option linter.unusedVariables false
set_option linter.unusedSimpArgs false


end Go.Proofs.Ytjknkeipginpcaa.PQ
end

section
namespace Go.Proofs.Ytjknkeipginpcaa.TrG
set_option linter.unusedVariables false
open Go.RowKit Go.Proofs.Ytjknkeipginpcaa.PQ Go.Proofs.YtjknkeipginpcaaW.PrintWords Go.Proofs.Ytjknkeipginpcaa.Pre Go.Proofs.Ytjknkeipginpcaa.Tr Go.Proofs.Ytjknkeipginpcaa.Pr Go.Proofs.Ytjknkeipginpcaa.Po

end Go.Proofs.Ytjknkeipginpcaa.TrG
end

section
namespace Go.Proofs.Ytjknkeipginpcaa.TrG
set_option linter.unusedVariables false
set_option linter.unusedSimpArgs false
open Go.RowKit Go.Proofs.Ytjknkeipginpcaa.PQ Go.Proofs.YtjknkeipginpcaaW.PrintWords Go.Proofs.YtjknkeipginpcaaW.PrintLast Go.Proofs.YtjknkeipginpcaaW.PrintMore Go.Proofs.Ytjknkeipginpcaa.Pre Go.Proofs.Ytjknkeipginpcaa.Tr Go.Proofs.Ytjknkeipginpcaa.Pr Go.Proofs.Ytjknkeipginpcaa.Po
theorem child_in {L : List Lb} {l : List KV} (h : Good L l) (i : Nat) (hi : i < L.length) : (L[i].f2 = -1 ∨ ((i : Int) < L[i].f2 ∧ L[i].f2 < (L.length : Int))) ∧ (L[i].f3 = -1 ∨ ((i : Int) < L[i].f3 ∧ L[i].f3 < (L.length : Int))) := by
 have hc := (enc_chs l.length l 0 (Nat.le_refl _)).1
 rw [h.2.2] at hc
 have hl := h.len
 have hb := hc i hi
 have hm : ∀ c, c ∈ [L[i].f2, L[i].f3] → c ≠ -1 → ((i : Int) < c ∧ c < (L.length : Int)) := by
  intro c hc hne
  have := hb c (List.mem_filter.2 ⟨hc, decide_eq_true hne⟩)
  omega
 constructor
 ·
  by_cases h1 : L[i].f2 = -1
  ·
   exact .inl h1
  ·
   exact .inr (hm _ (by simp) h1)
 ·
  by_cases h1 : L[i].f3 = -1
  ·
   exact .inl h1
  ·
   exact .inr (hm _ (by simp) h1)
/-- How many limbs lie from one down at most. -/
def dp (L : List Lb) : Nat → Int → Int
 | 0, _ => 0
 | f + 1, k => if k < 0 then 0 else 1 + max (dp L f (rd_T71 L k).f2) (dp L f (rd_T71 L k).f3)
theorem dp_neg (L : List Lb) (f : Nat) (k : Int) (h : k < 0) : dp L f k = 0 := by
 cases f with
 | zero => rfl
 | succ f => unfold dp; rw [if_pos h]
theorem dp_bd (L : List Lb) : ∀ (f : Nat) (k : Int), 0 ≤ dp L f k ∧ dp L f k ≤ (f : Int)
 | 0, k => ⟨by simp [dp], by simp [dp]⟩
 | f + 1, k => by
  have h1 := dp_bd L f (rd_T71 L k).f2
  have h2 := dp_bd L f (rd_T71 L k).f3
  unfold dp
  split <;> omega
set_option maxHeartbeats 1000000 in
set_option maxRecDepth 100000 in
theorem deepAt (L : List Lb) (A : Option Addr) (c tb : Nat)
  (hL : L.length ≤ 60) (hch : ∀ (i : Nat) (hi : i < L.length), (L[i].f2 = -1 ∨ ((i : Int) < L[i].f2 ∧ L[i].f2 < (L.length : Int))) ∧ (L[i].f3 = -1 ∨ ((i : Int) < L[i].f3 ∧ L[i].f3 < (L.length : Int)))) : ∀ (f : Nat) (k : Int) (w : World), Kd.C k71 w A L.length L → w.heap[tb]? = some (.cells #[.slice A L.length c] 29 (0, 0)) → f ≤ 60 → (k = -1 ∨ (0 ≤ k ∧ k < (L.length : Int) ∧ (L.length : Int) - k ≤ (f : Int))) →
  Calls Try.prog 52 #[.pointer (some ⟨tb, 0, none⟩), .int .i64 k] w fun e w' => e = .returned (.int .i64 (dp L f k)) ∧ ∃ m, w' = w.drewN m := by
 intro f
 induction f with
 | zero =>
  intro k w hC ht hf hk
  obtain rfl : k = -1 := hk.elim id (fun h => by omega)
  go_enter Try.func52, Try.ntmps52
  go_wp2
  go_ret
  exact ⟨rfl, 0, rfl⟩
 | succ f ih =>
  intro k w hC ht hf hk
  by_cases hk1 : k = -1
  ·
   subst hk1
   rw [dp_neg L _ _ (by omega)]
   go_enter Try.func52, Try.ntmps52
   go_wp2
   go_ret
   exact ⟨rfl, 0, rfl⟩
  ·
   obtain ⟨h0, h1, h2⟩ := hk.resolve_left hk1
   obtain ⟨i, rfl⟩ := Int.eq_ofNat_of_zero_le h0
   have hi : i < L.length := by omega
   have hc2 := hch i hi
   rw [← rdL L i hi] at hc2
   have HI := aM (fun (k : Int) (q : Nat) (h : k = -1 ∨ (0 ≤ k ∧ k < (L.length : Int) ∧ (L.length : Int) - k ≤ (f : Int))) => ih k (w.drewN q) (Kd.C_below hC (pw_below_drewN (Below.refl _ _) _)) ht (by omega) h)
   have H2 := aM (hc2.1.imp id (fun h => (⟨by omega, by omega, by omega⟩ : 0 ≤ (rd_T71 L (i : Int)).f2 ∧ (rd_T71 L (i : Int)).f2 < (L.length : Int) ∧ (L.length : Int) - (rd_T71 L (i : Int)).f2 ≤ (f : Int))))
   have H3 := aM (hc2.2.imp id (fun h => (⟨by omega, by omega, by omega⟩ : 0 ≤ (rd_T71 L (i : Int)).f3 ∧ (rd_T71 L (i : Int)).f3 < (L.length : Int) ∧ (L.length : Int) - (rd_T71 L (i : Int)).f3 ≤ (f : Int))))
   have ed : dp L (f + 1) (i : Int) = 1 + max (dp L f (rd_T71 L (i : Int)).f2) (dp L f (rd_T71 L (i : Int)).f3) := by
    conv => lhs; unfold dp
    rw [if_neg (by omega)]
   have b1 := dp_bd L f (rd_T71 L (i : Int)).f2
   have b2 := dp_bd L f (rd_T71 L (i : Int)).f3
   obtain ⟨ad, e, g0, g1, g2, g3⟩ := at_T71 hC (i : Int) (by omega) (by omega)
   rw [Int.toNat_natCast] at g0 g1 g2 g3
   subst e
   generalize rd_T71 L (i : Int) = x at *
   obtain ⟨d1, hd1⟩ : ∃ d, dp L f x.f2 = d := ⟨_, rfl⟩
   obtain ⟨d2, hd2⟩ : ∃ d, dp L f x.f3 = d := ⟨_, rfl⟩
   rw [hd1] at b1
   rw [hd2] at b2
   rw [ed, hd1, hd2]
   have HD1 := aM hd1
   have HD2 := aM hd2
   have c1 : w.cell? ⟨tb, 0, none⟩ = some (.slice (some ad) L.length c) := (blk_cell ht 0).trans rfl
   have b3 : 0 ≤ d1 := b1.1
   have b4 : d1 ≤ 60 := by omega
   have b5 : 0 ≤ d2 := b2.1
   have b6 : d2 ≤ 60 := by omega
   have hi2 : (i : Int) < (L.length : Int) := by omega
   clear ih hc2 hch hC ht ed b1 b2 hd1 hd2 hk hk1 h0 h1 h2 g0 g1 hi hf hL
   go_enter Try.func52, Try.ntmps52
   go_wp2
   go_quiet ((go_at_call 52; exact Calls.quiet_of (HI.out _ _ (by first | exact H2.out | exact H3.out))))
   go_wp2
   go_ret
   refine ⟨?_, _, rfl⟩
   show Ending.returned (.int .i64 (wrap64 (1 + max (dp L f x.f2) (dp L f x.f3)))) = Ending.returned (.int .i64 (1 + max d1 d2))
   rw [HD1.out, HD2.out, w64 (by omega) (by omega)]
/-- What DeepIn answers. -/
def ansD (L : List Lb) : Int × Bool := if (ansP L).2 = true then (if L.length = 0 then (0, true) else (dp L L.length 0, true)) else (0, false)
set_option maxHeartbeats 1000000 in
set_option maxRecDepth 100000 in
theorem deepIn (L : List Lb) (A : Option Addr) (c : Nat) (w : World) (hC : Kd.C k71 w A L.length L) (hc1 : L.length ≤ c) (hLL : L.length ≤ 1048576) :
  Calls Try.prog 21 #[.agg #[.slice A L.length c]] w fun e w' => e = .returned (.tuple #[.int .i64 (ansD L).1, .bool (ansD L).2]) ∧ Below w.heap.size w w' := by
 obtain ⟨wA, hwA⟩ : ∃ wA, wA = w.alloc (.cells #[.slice A L.length c] 29) := ⟨_, rfl⟩
 have HWA := aM hwA
 have HTA := aM (show wA.heap[w.heap.size]? = some (.cells #[.slice A L.length c] 29 (0, 0)) by rw [hwA]; exact at_new _ _)
 have HBA := aM (show Below w.heap.size w wA by rw [hwA]; exact below_alloc (Below.refl _ _) _)
 have HSA := aM (show wA.heap.size = w.heap.size + 1 by rw [hwA]; exact new_size _ _)
 have ct : (w.alloc (.cells #[.slice A L.length c] 29)).cell? ⟨w.heap.size, 0, none⟩ = some (.slice A L.length c) := by rw [← hwA]; exact (blk_cell HTA.out 0).trans rfl
 have HCA := aM (Kd.C_below hC HBA.out)
 have hP : impl_GoodTreap.f L = some (ansP L).2 := by
  unfold impl_GoodTreap.f
  rw [show impl_pairsOf.f L = some (ansP L) from if_pos hLL]
  rfl
 have HG := aM (impl_GoodTreap.calls A c L (ansP L).2 wA HCA.out hc1 hP)
 have HAD := aM (show ansD L = _ from rfl)
 have hlb : (L.length : Int) ≤ 1048576 := by omega
 by_cases hg : (ansP L).2 = true
 ·
  obtain ⟨l, hl⟩ : ∃ l, Good L l := ⟨_, ansP_true hg⟩
  have h60 : L.length ≤ 60 := by have := hl.len; have := hl.1; omega
  have HCH := aM (child_in hl)
  by_cases h0 : L.length = 0
  ·
   have ea : ansD L = (0, true) := by unfold ansD; rw [if_pos hg, if_pos h0]
   rw [ea]
   rw [hg] at HG
   have z0 : (L.length : Int) = 0 := by omega
   clear hC hc1 hLL hP hwA hl HAD hg ea h60 h0
   go_enter Try.func21, Try.ntmps21
   go_upto_region 3 with (go_at_call 16; rw [← HWA.out]; go_loud ((with_reducible refine HG.out.mono ?_); rintro e w4 ⟨rfl, hb⟩; have HB4 := aM hb; clear hb))
   have ct4 : w4.cell? ⟨w.heap.size, 0, none⟩ = some (.slice A L.length c) := (blk_cell ((HB4.out.block w.heap.size (by have := HSA.out; omega)).trans HTA.out) 0).trans rfl
   clear ct
   go_wp2
   go_ret2
   exact ⟨rfl, HBA.out.trans (HB4.out.mono (by have := HSA.out; omega))⟩
  ·
   have ea : ansD L = (dp L L.length 0, true) := by unfold ansD; rw [if_pos hg, if_neg h0]
   rw [ea]
   rw [hg] at HG
   have z0 : ¬ (L.length : Int) = 0 := by omega
   have HH0 := aM h0
   have HLL := aM h60
   obtain ⟨d, hd⟩ : ∃ d, d = dp L L.length 0 := ⟨_, rfl⟩
   rw [← hd]
   have HD := aM hd
   clear hC hc1 hLL hP hwA hl HAD hg ea h60 h0 hd
   go_enter Try.func21, Try.ntmps21
   go_upto_region 3 with (go_at_call 16; rw [← HWA.out]; go_loud ((with_reducible refine HG.out.mono ?_); rintro e w4 ⟨rfl, hb⟩; have HB4 := aM hb; clear hb))
   have HT4 := aM ((HB4.out.block w.heap.size (by have := HSA.out; omega)).trans HTA.out)
   have ct4 : w4.cell? ⟨w.heap.size, 0, none⟩ = some (.slice A L.length c) := (blk_cell HT4.out 0).trans rfl
   have HDD := aM (deepAt L A c w.heap.size HLL.out HCH.out L.length 0 w4 (Kd.C_below HCA.out HB4.out) HT4.out HLL.out (.inr ⟨by omega, by have := HH0.out; omega, by omega⟩))
   rw [← HD.out] at HDD
   clear ct
   go_wp2_with (go_at_call 52; go_loud ((with_reducible refine HDD.out.mono ?_); rintro e w5 ⟨rfl, m5, rfl⟩))
   go_ret2
   exact ⟨rfl, pw_below_drewN (HBA.out.trans (HB4.out.mono (by have := HSA.out; omega))) _⟩
 ·
  have ea : ansD L = (0, false) := by unfold ansD; rw [if_neg hg]
  rw [ea]
  have hg2 : (ansP L).2 = false := by simpa using hg
  rw [hg2] at HG
  clear hC hc1 hLL hP hwA HAD hg ea hg2
  go_enter Try.func21, Try.ntmps21
  go_wp2_with (go_at_call 16; rw [← HWA.out]; go_loud ((with_reducible refine HG.out.mono ?_); rintro e w4 ⟨rfl, hb⟩; have HB4 := aM hb; clear hb))
  go_ret2
  exact ⟨rfl, HBA.out.trans (HB4.out.mono (by have := HSA.out; omega))⟩
end Go.Proofs.Ytjknkeipginpcaa.TrG
end

section
namespace Go.Proofs.Ytjknkeipginpcaa.PQ
open Go.RowKit Go.Proofs.YtjknkeipginpcaaW.PrintWords Go.Proofs.YtjknkeipginpcaaW.PrintLast Go.Proofs.YtjknkeipginpcaaW.PrintMore
attribute [local go_sem] max2_int min2_int max_two min_two max_three min_three max_four min_four
set_option linter.unusedVariables false
set_option linter.unusedSimpArgs false
def impl_DeepIn.f (l0_0 : List (S71)) : Option (Int × Bool) := if l0_0.length ≤ 1048576 then some (TrG.ansD l0_0) else none
theorem impl_DeepIn.calls (A0_0 : Option Addr) (c0_0 : Nat) (l0_0 : List (S71)) (r1 : Int) (r2 : Bool) (w : World) (hr0_0 : Kd.C k71 w A0_0 l0_0.length l0_0) (hc0_0 : l0_0.length ≤ c0_0) (h : impl_DeepIn.f l0_0 = some (r1, r2)) :
  Calls Try.prog 21 #[.agg #[.slice A0_0 l0_0.length c0_0]] w fun e w' => e = .returned (.tuple #[.int .i64 r1, .bool r2]) ∧ Below w.heap.size w w' := by
 unfold impl_DeepIn.f at h
 split at h
 ·
  rename_i hs
  have h1 := Option.some.inj h
  have := TrG.deepIn l0_0 A0_0 c0_0 w hr0_0 hc0_0 hs
  rw [h1] at this
  exact this
 ·
  cases h

end Go.Proofs.Ytjknkeipginpcaa.PQ
end

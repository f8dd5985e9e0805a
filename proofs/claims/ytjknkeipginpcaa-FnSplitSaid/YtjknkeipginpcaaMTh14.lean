/- Several texts in one: what the claim's last text rests on. No conditions. -/
import Derived.Test.YtjknkeipginpcaaMTh13
import Derived.Lib.Overlaps
import Derived.Lib.AppendZerosOnto
import Derived.Lib.AppendZeros
import Derived.Laws.Externs
import Derived.Laws.IdiomCopy
import Derived.Test.YtjknkeipginpcaaMTh5
import Derived.Test.YtjknkeipginpcaaMTh12
import Derived.Test.YtjknkeipginpcaaMTh10
import Derived.Deep.QuietTactic
import Derived.BigQuiet
import Derived.Test.YtjknkeipginpcaaMTh11
section
namespace Go.Proofs.Ytjknkeipginpcaa.TrG
set_option linter.unusedVariables false
set_option linter.unusedSimpArgs false
open Go.RowKit Go.Proofs.Ytjknkeipginpcaa.PQ Go.Proofs.YtjknkeipginpcaaW.PrintWords Go.Proofs.YtjknkeipginpcaaW.PrintLast Go.Proofs.YtjknkeipginpcaaW.PrintMore Go.Proofs.Ytjknkeipginpcaa.Pre Go.Proofs.Ytjknkeipginpcaa.Tr Go.Proofs.Ytjknkeipginpcaa.Pr Go.Proofs.Ytjknkeipginpcaa.Po
section
variable {P : Program} {ops : Array Oper} {rest : List Oper} {o : Oper} {a : Act} {Q : Exit → Act → World → Prop} {Kc : Act → World → Prop}
end

/-- The keys behind a put. -/
def putL (l : List KV) (key value : ByteArray) : List KV := if hsk l key = true then l.take (plc l key) ++ (key, value) :: l.drop (plc l key + 1) else l.take (plc l key) ++ (key, value) :: l.drop (plc l key)
/-- What PutKey answers. -/
def ansK (L : List Lb) (key value : ByteArray) : List Lb × Bool :=
  if (ansP L).2 = true ∧ (1 ≤ key.size ∧ key.size ≤ 40) ∧ value.size ≤ 60 ∧ (putL ((ansP L).1.map BuI.kv) key value).length ≤ 60 then (enc (putL ((ansP L).1.map BuI.kv) key value).length 0 (putL ((ansP L).1.map BuI.kv) key value), true) else ([], false)
end Go.Proofs.Ytjknkeipginpcaa.TrG
end

section
namespace Go.Proofs.Ytjknkeipginpcaa.PQ
open Go.RowKit Go.Proofs.YtjknkeipginpcaaW.PrintWords Go.Proofs.YtjknkeipginpcaaW.PrintLast Go.Proofs.YtjknkeipginpcaaW.PrintMore
attribute [local go_sem] max2_int min2_int max_two min_two max_three min_three max_four min_four
set_option linter.unusedVariables false
set_option linter.unusedSimpArgs false

end Go.Proofs.Ytjknkeipginpcaa.PQ
end

section
namespace Go.Proofs.Ytjknkeipginpcaa.TrG
set_option linter.unusedVariables false
set_option linter.unusedSimpArgs false
open Go.RowKit Go.Proofs.Ytjknkeipginpcaa.PQ Go.Proofs.YtjknkeipginpcaaW.PrintWords Go.Proofs.Ytjknkeipginpcaa.Pre Go.Proofs.Ytjknkeipginpcaa.Tr Go.Proofs.Ytjknkeipginpcaa.Pr Go.Proofs.Ytjknkeipginpcaa.Po
theorem plc_at : ∀ (l : List KV) (key : ByteArray) (i : Nat), i ≤ l.length → (∀ j, j < i → ls (l.getD j zKV).1 key = true) → (i < l.length → ls (l.getD i zKV).1 key = false) → plc l key = i
 | [], key, i, hi, h1, h2 => by
  have : i = 0 := by simpa using hi
  subst this
  rfl
 | a :: l, key, 0, hi, h1, h2 => by
  rw [plc_cons, if_neg]
  have := h2 (by simp)
  simpa using this
 | a :: l, key, i + 1, hi, h1, h2 => by
  have h0 : ls a.1 key = true := by simpa using h1 0 (by omega)
  rw [plc_cons, if_pos h0, plc_at l key i (by simpa using hi) (fun j hj => by simpa using h1 (j + 1) (by omega)) (fun h => by simpa using h2 (by simpa using h))]
theorem at_ev (ps : List Pb) (hp : ps.length ≤ 1048576) (key : ByteArray) : Evt (fun k => spec_l7At.f k ps key) (((plc (ps.map BuS.kv) key : Nat) : Int), hsk (ps.map BuS.kv) key) := by
 unfold spec_l7At.f
 have key1 : ∀ (m i : Nat), i + m = ps.length → (∀ j, j < i → ls ((ps.map BuS.kv).getD j zKV).1 key = true) → Evt (fun k => spec_l7At.l0 k ps key (i : Int)) (((plc (ps.map BuS.kv) key : Nat) : Int), hsk (ps.map BuS.kv) key) := by
  intro m
  induction m with
  | zero =>
   intro i hi hj
   have e := plc_at (ps.map BuS.kv) key i (by rw [List.length_map]; omega) hj (fun h => by rw [List.length_map] at h; omega)
   refine (Evt.step (fun k => spec_l7At.l0.eq_2 _ _ _ k) (Evt.neg (by omega) (Evt.const _))).eq ?_
   rw [e]
   unfold hsk
   rw [e, decide_eq_false (by rw [List.length_map]; omega)]
   rfl
  | succ m ih =>
   intro i hi hj
   have q1 : i < ps.length := by omega
   have e0 := (BuS.kv_key ps i q1).1
   refine Evt.step (fun k => spec_l7At.l0.eq_2 _ _ _ k) (Evt.pos (by omega) (Evt.pos (by omega) ?_))
   rw [← e0]
   cases h : ls ((ps.map BuS.kv).getD i zKV).1 key with
   | true =>
    refine Evt.pos h ?_
    rw [w64 (n := (i : Int) + 1) (by omega) (by omega), show (i : Int) + 1 = ((i + 1 : Nat) : Int) by omega]
    refine ih (i + 1) (by omega) (fun j h2 => ?_)
    rcases Nat.lt_or_ge j i with h3 | h3
    ·
     exact hj j h3
    ·
     obtain rfl : j = i := by omega
     exact h
   | false =>
    have e := plc_at (ps.map BuS.kv) key i (by rw [List.length_map]; omega) hj (fun _ => h)
    refine Evt.neg (by show ¬ ls _ _ = true; rw [h]; decide) ((Evt.const _).eq ?_)
    rw [e]
    unfold hsk
    rw [e, decide_eq_true (by rw [List.length_map]; exact q1), Bool.true_and]
    congr 1
    rw [Bool.eq_iff_iff, beq_iff_eq, decide_eq_true_iff]
    exact Byt.toList_iff
 exact key1 ps.length 0 (by omega) (fun j h => absurd h (Nat.not_lt_zero _))
theorem treapS_f (ps : List Pb) (hp : ps.length ≤ 1048576) (hk : ∀ x ∈ ps, x.f0.size ≤ 1048576) : spec_l7Treap.f ps = some (enc ps.length 0 (ps.map BuS.kv)) := if_pos ⟨hp, hk⟩
theorem encS (ps : List Pb) (l : List KV) (h : ps.map BuS.kv = l) : enc ps.length 0 (ps.map BuS.kv) = enc l.length 0 l := by
 subst h
 rw [List.length_map]
/-- What is known of a good treap's keys. -/
theorem good_of_ansP {L : List Lb} {l : List KV} (h : ansP L = (l.map bkI, true)) : l.length ≤ 60 ∧ Ri l ∧ ∀ x ∈ l, x.1.size ≤ 40 ∧ x.2.size ≤ 60 := by
 have hri := ansP_ri L
 rw [h] at hri
 refine ⟨by have := hri.2.1; rw [List.length_map] at this; exact this, ?_, fun x hx => hri.2.2 (bkI x) (List.mem_map.2 ⟨x, hx, rfl⟩)⟩
 have := hri.1
 rw [show ((l.map bkI, true) : List Pa × Bool).1 = l.map bkI from rfl, bkI_kv] at this
 exact this
theorem sz_map {l m : List KV} (h : ∀ x ∈ l, x.1.size ≤ 40 ∧ x.2.size ≤ 60) (hm : ∀ x ∈ m, x ∈ l) : ∀ x ∈ m.map bkS, x.f0.size ≤ 1048576 := by
 intro x hx
 obtain ⟨y, hy, rfl⟩ := List.mem_map.1 hx
 have := (h y (hm y hy)).1
 show y.1.size ≤ 1048576
 omega
theorem cut_both (L : List Lb) (key : ByteArray) : Evt (fun k => spec_CutKey.f k L key) (ansC L key) := by
 unfold spec_CutKey.f
 rcases both L with ⟨l, hg, h1, h2⟩ | ⟨h1, _, h2⟩
 ·
  obtain ⟨h60, hri, hsz⟩ := good_of_ansP h1
  have ha := at_ev (l.map bkS) (by rw [List.length_map]; omega) key
  rw [bkS_kv] at ha
  have ec : ansC L key = if hsk l key = true then (enc (l.eraseIdx (plc l key)).length 0 (l.eraseIdx (plc l key)), true) else ([], false) := by
   unfold ansC
   rw [h1, show ((l.map bkI, true) : List Pa × Bool).1 = l.map bkI from rfl, bkI_kv]
   simp
  refine Evt.bind h2 (Evt.bind ha (Evt.pos rfl ?_))
  by_cases hth : hsk l key = true
  ·
   have hp := hsk_lt hth
   rw [ec.trans (if_pos hth)]
   refine Evt.pos hth (Evt.bsome (Evt.pos (by show (0 : Int) ≤ ((plc l key : Nat) : Int); omega) (Evt.pos (by rw [List.length_map]; show ((plc l key : Nat) : Int) ≤ _; omega) (Evt.bsome (Evt.pos (by simp; omega) (Evt.bsome ?_))))))
   show Evt (fun k => if 0 ≤ wrap64 (((plc l key : Nat) : Int) + 1) then _ else _) _
   rw [w64 (n := ((plc l key : Nat) : Int) + 1) (by omega) (by omega), show (((plc l key : Nat) : Int) + 1).toNat = plc l key + 1 by omega]
   refine Evt.pos (by omega) (Evt.pos (by rw [List.length_map]; omega) (Evt.bsome (Evt.pos (by simp; omega) ?_)))
   have e : ([] ++ (l.map bkS).take (plc l key)) ++ (l.map bkS).drop (plc l key + 1) = (l.eraseIdx (plc l key)).map bkS := by
    rw [List.nil_append, List.eraseIdx_eq_take_drop_succ, List.map_append, List.map_take, List.map_drop]
   show Evt (fun k => (spec_l7Treap.f (([] ++ (l.map bkS).take (((plc l key : Nat) : Int)).toNat) ++ (l.map bkS).drop (plc l key + 1))).bind _) _
   rw [Int.toNat_natCast, e, treapS_f _ (by rw [List.length_map, List.length_eraseIdx_of_lt hp]; omega) (sz_map hsz (fun x hx => List.mem_of_mem_eraseIdx hx))]
   refine Evt.bsome ((Evt.const _).eq ?_)
   rw [encS _ _ (bkS_kv _)]
  ·
   rw [ec.trans (if_neg hth)]
   exact Evt.neg hth (Evt.const _)
 ·
  have ha := at_ev [] (by simp) key
  have ec : ansC L key = ([], false) := if_neg (fun h => by rw [h1] at h; cases h.1)
  rw [ec]
  exact Evt.bind h2 (Evt.bind ha (Evt.neg (by decide) (Evt.const _)))
theorem put_ev (ps : List Pb) (hp : ps.length ≤ 60) (key value : ByteArray) : Evt (fun k => spec_l7Put.f k ps key value) ((putL (ps.map BuS.kv) key value).map bkS) := by
 unfold spec_l7Put.f putL
 have hpl := plc_le (ps.map BuS.kv) key
 rw [List.length_map] at hpl
 have ha := at_ev ps (by omega) key
 refine Evt.bind ha (Evt.pos (by omega) (Evt.pos (by omega) (Evt.bsome (Evt.pos (by simp; omega) (Evt.bsome (Evt.pos (by simp; omega) (Evt.bsome ?_)))))))
 rw [Int.toNat_natCast]
 have back : ∀ qs : List Pb, (qs.map BuS.kv).map bkS = qs := kvS_bk
 cases hth : hsk (ps.map BuS.kv) key with
 | true =>
  have hlt := hsk_lt hth
  rw [List.length_map] at hlt
  refine Evt.pos rfl ?_
  rw [w64 (n := ((plc (ps.map BuS.kv) key : Nat) : Int) + 1) (by omega) (by omega), show (((plc (ps.map BuS.kv) key : Nat) : Int) + 1).toNat = plc (ps.map BuS.kv) key + 1 by omega]
  refine Evt.pos (by omega) (Evt.pos (by omega) (Evt.bsome (Evt.pos (by simp; omega) ((Evt.const _).eq ?_))))
  rw [if_pos rfl, List.map_append, List.map_cons, List.map_take, List.map_drop, back]
  simp [bkS]
 | false =>
  refine Evt.neg (fun h => by cases h) (Evt.bsome (Evt.pos (by simp; omega) ((Evt.const _).eq ?_)))
  rw [if_neg (fun h => by cases h), List.map_append, List.map_cons, List.map_take, List.map_drop, back]
  simp [bkS]
theorem putL_mem {l : List KV} {key value : ByteArray} {x : KV} (h : x ∈ putL l key value) : x ∈ l ∨ x = (key, value) := by
 unfold putL at h
 split at h
 ·
  rcases List.mem_append.1 h with h | h
  ·
   exact .inl (List.mem_of_mem_take h)
  ·
   rcases List.mem_cons.1 h with h | h
   ·
    exact .inr h
   ·
    exact .inl (List.mem_of_mem_drop h)
 ·
  rcases List.mem_append.1 h with h | h
  ·
   exact .inl (List.mem_of_mem_take h)
  ·
   rcases List.mem_cons.1 h with h | h
   ·
    exact .inr h
   ·
    exact .inl (List.mem_of_mem_drop h)
theorem put_both (L : List Lb) (key value : ByteArray) : Evt (fun k => spec_PutKey.f k L key value) (ansK L key value) := by
 unfold spec_PutKey.f
 have bad : ∀ (ps : List Pb), ansK L key value = ([], false) → Evt (fun k => spec_PutKey.j0 k key value ps true) (ansK L key value) := fun ps h => by
  rw [h]
  exact Evt.step (fun k => spec_PutKey.j0.eq_2 _ _ _ _ k) (Evt.pos rfl (Evt.const _))
 rcases both L with ⟨l, hg, h1, h2⟩ | ⟨h1, _, h2⟩
 ·
  obtain ⟨h60, hri, hsz⟩ := good_of_ansP h1
  have ek : ansK L key value = if (1 ≤ key.size ∧ key.size ≤ 40) ∧ value.size ≤ 60 ∧ (putL l key value).length ≤ 60 then (enc (putL l key value).length 0 (putL l key value), true) else ([], false) := by
   unfold ansK
   rw [h1, show ((l.map bkI, true) : List Pa × Bool).1 = l.map bkI from rfl, bkI_kv]
   simp
  refine Evt.bind h2 (Evt.pos rfl (Evt.bind (Evt.of fun _ => in_eq _ _ _) ?_))
  by_cases hk : 1 ≤ key.size ∧ key.size ≤ 40
  ·
   refine Evt.pos (decide_eq_true (by omega)) ?_
   by_cases hv : value.size ≤ 60
   ·
    rw [show decide ((value.size : Int) > 60) = false from decide_eq_false (by omega)]
    have hp := put_ev (l.map bkS) (by rw [List.length_map]; exact h60) key value
    rw [bkS_kv] at hp
    refine Evt.step (fun k => spec_PutKey.j0.eq_2 _ _ _ _ k) (Evt.neg (by decide) (Evt.bind hp ?_))
    by_cases hl : (putL l key value).length ≤ 60
    ·
     rw [ek.trans (if_pos ⟨hk, hv, hl⟩)]
     refine Evt.neg (by rw [List.length_map]; omega) ?_
     rw [treapS_f _ (by rw [List.length_map]; omega) (fun x hx => by
      obtain ⟨y, hy, rfl⟩ := List.mem_map.1 hx
      show y.1.size ≤ _
      rcases putL_mem hy with h | h
      ·
       have := (hsz y h).1; omega
      ·
       rw [h]; show key.size ≤ _; omega)]
     refine Evt.bsome ((Evt.const _).eq ?_)
     rw [encS _ _ (bkS_kv _)]
    ·
     rw [ek.trans (if_neg (fun h => hl h.2.2))]
     exact Evt.pos (by rw [List.length_map]; omega) (Evt.const _)
   ·
    rw [show decide ((value.size : Int) > 60) = true from decide_eq_true (by omega)]
    exact bad _ (ek.trans (if_neg (fun h => hv h.2.1)))
  ·
   refine Evt.neg (by simp only [decide_eq_true_eq]; omega) ?_
   exact bad _ (ek.trans (if_neg (fun h => hk h.1)))
 ·
  have hb := bad [] (by unfold ansK; rw [h1, if_neg (fun h => by cases h.1)])
  exact Evt.bind h2 (Evt.neg (by decide) hb)
/-- What SplitTreap answers. -/
def ansS (L : List Lb) (key : ByteArray) : List Lb × List Lb × Bool :=
 if (ansP L).2 = true then (enc (((ansP L).1.map BuI.kv).take (plc ((ansP L).1.map BuI.kv) key)).length 0 (((ansP L).1.map BuI.kv).take (plc ((ansP L).1.map BuI.kv) key)), enc (((ansP L).1.map BuI.kv).drop (plc ((ansP L).1.map BuI.kv) key)).length 0 (((ansP L).1.map BuI.kv).drop (plc ((ansP L).1.map BuI.kv) key)), true) else ([], [], false)
theorem split_both (L : List Lb) (key : ByteArray) : Evt (fun k => spec_SplitTreap.f k L key) (ansS L key) := by
 unfold spec_SplitTreap.f ansS
 rcases both L with ⟨l, hg, h1, h2⟩ | ⟨h1, _, h2⟩
 ·
  obtain ⟨h60, hri, hsz⟩ := good_of_ansP h1
  have hpl := plc_le l key
  have ha := at_ev (l.map bkS) (by rw [List.length_map]; omega) key
  rw [bkS_kv] at ha
  refine Evt.bind h2 (Evt.pos rfl (Evt.bind ha (Evt.pos (by omega) (Evt.pos (by rw [List.length_map]; omega) ?_))))
  rw [h1, show ((l.map bkI, true) : List Pa × Bool).1 = l.map bkI from rfl, bkI_kv, if_pos rfl, Int.toNat_natCast, ← List.map_take, ← List.map_drop]
  rw [treapS_f _ (by rw [List.length_map, List.length_take]; omega) (sz_map hsz (fun x hx => List.mem_of_mem_take hx)), treapS_f _ (by rw [List.length_map, List.length_drop]; omega) (sz_map hsz (fun x hx => List.mem_of_mem_drop hx))]
  refine Evt.bsome (Evt.bsome ((Evt.const _).eq ?_))
  rw [encS _ _ (bkS_kv _), encS _ _ (bkS_kv _)]
 ·
  rw [h1, if_neg (by decide)]
  exact Evt.bind h2 (Evt.neg (by decide) (Evt.const _))
theorem cut_small (L : List Lb) (key : ByteArray) : (ansC L key).1.length ≤ 60 := by
 have h := (ansP_ri L).2.1
 unfold ansC
 split
 ·
  rename_i hc
  have hp := hsk_lt hc.2
  show (enc _ 0 _).length ≤ 60
  rw [enc_len _ _ _ (Nat.le_refl _), List.length_eraseIdx_of_lt hp, List.length_map]
  omega
 ·
  simp
theorem put_small (L : List Lb) (key value : ByteArray) : (ansK L key value).1.length ≤ 60 := by
 unfold ansK
 split
 ·
  rename_i hc
  show (enc _ 0 _).length ≤ 60
  rw [enc_len _ _ _ (Nat.le_refl _)]
  exact hc.2.2.2
 ·
  simp
theorem split_small (L : List Lb) (key : ByteArray) : (ansS L key).1.length ≤ 60 ∧ (ansS L key).2.1.length ≤ 60 := by
 have h := (ansP_ri L).2.1
 unfold ansS
 split
 ·
  constructor
  ·
   show (enc _ 0 _).length ≤ 60
   rw [enc_len _ _ _ (Nat.le_refl _), List.length_take, List.length_map]
   omega
  ·
   show (enc _ 0 _).length ≤ 60
   rw [enc_len _ _ _ (Nat.le_refl _), List.length_drop, List.length_map]
   omega
 ·
  simp
end Go.Proofs.Ytjknkeipginpcaa.TrG
end

section
namespace Go.Proofs.Ytjknkeipginpcaa.TrG
set_option linter.unusedVariables false
set_option linter.unusedSimpArgs false
open Go.RowKit Go.Proofs.Ytjknkeipginpcaa.PQ Go.Proofs.YtjknkeipginpcaaW.PrintWords Go.Proofs.YtjknkeipginpcaaW.PrintLast Go.Proofs.YtjknkeipginpcaaW.PrintMore Go.Proofs.Ytjknkeipginpcaa.Pre Go.Proofs.Ytjknkeipginpcaa.Tr Go.Proofs.Ytjknkeipginpcaa.Pr Go.Proofs.Ytjknkeipginpcaa.Po
set_option maxHeartbeats 2000000 in
set_option maxRecDepth 100000 in
theorem grow_nil (n : Nat) (w : World) (hn : n ≤ 1048576) :
  Calls Try.prog 80 #[.slice none 0 0, .int .i64 (n : Int)] w fun e w' => ∃ (A : Option Addr) (c : Nat), e = .returned (.slice A 0 c) ∧ Kd.R k80 80 w' w.heap.size (fun _ => True) (.slice A 0 c) [] ∧ Below w.heap.size w w' := by
 have HN := aM hn
 have hnb : (n : Int) ≤ 1048576 := by omega
 by_cases h0 : n = 0
 ·
  subst h0
  clear hn
  go_enter Try.func80, Try.ntmps80
  go_wp2
  go_ret
  exact ⟨none, 0, rfl, Kd.R_nil _ _ _ _ _, Below.refl _ _⟩
 ·
  have hp : (0 : Int) < (n : Int) := by omega
  have hp2 : ¬ (n : Int) < 0 := by omega
  clear hn h0
  go_enter Try.func80, Try.ntmps80
  go_wp2_with (at_builtin; go_loud (refine Kd.R_append_zeros k80 (w0 := w) w.heap.size rfl (.tmp 20) (.tmp 21) 66 3 80 (.agg #[(.string ⟨#[]⟩), (.string ⟨#[]⟩)]) 32 rfl Try.underlying66 Try.underlying3 info80 rfl (by decide) (by decide) (.slice none 0 0) [] (⟨⟨#[]⟩, ⟨#[]⟩⟩ : Pa) (n : Int) (fun _ => True) rfl rfl (k80_mkM _ _ _ _) (fun _ _ => trivial) (Kd.R_nil _ _ _ _ _) (by omega) (Below.refl _ _) (Nat.le_refl _) (by have := HN.out; show (0 + ((n : Int)).toNat) * 32 ≤ _; omega) ?_; intro v1 w1 ho1 hb1 hg1 hat1; obtain ⟨A1, c1, e1⟩ := Kd.R_slice ho1; subst e1; have HO1 := aM ho1; have HB1 := aM hb1; have hc1 : (0 : Int) ≤ (c1 : Int) := (by omega); clear ho1 hb1 hg1 hat1))
  go_ret
  exact ⟨_, _, rfl, Kd.R_take (m := 0) HO1.out (Nat.zero_le _), HB1.out⟩
set_option maxHeartbeats 4000000 in
set_option maxRecDepth 100000 in
theorem concat (A1 A2 : Option Addr) (c1 c2 : Nat) (xs ys : List Pa) (b : Nat) (w : World) (hb : w.heap[b]? = some (.cells #[.slice A1 xs.length c1, .slice A2 ys.length c2] 66 (0, 0))) (hx : Kd.C k80 w A1 xs.length xs) (hy : Kd.C k80 w A2 ys.length ys) (hl : xs.length + ys.length ≤ 1048576) :
  Calls Try.prog 58 #[.slice (some ⟨b, 0, none⟩) 2 2] w fun e w' => ∃ v, e = .returned v ∧ Kd.R k80 80 w' w.heap.size (fun _ => True) v (xs ++ ys) ∧ Below w.heap.size w w' := by
 obtain ⟨s, hs⟩ : ∃ s, s = xs.length + ys.length := ⟨_, rfl⟩
 have HB := aM hb
 have HX := aM hx
 have HY := aM hy
 have HL := aM hl
 have HS := aM hs
 have hbw : b < w.heap.size := blk_lt hb
 have HBW := aM hbw
 have hlx : (xs.length : Int) ≤ 1048576 := by omega
 have hly : (ys.length : Int) ≤ 1048576 := by omega
 have hls : (s : Int) ≤ 1048576 := by omega
 have HG := aM (grow_nil s w (by omega))
 have hb0 : w.cell? ⟨b, 0, none⟩ = some (.slice A1 xs.length c1) := (blk_cell hb 0).trans rfl
 have hb1 : w.cell? ⟨b, 1, none⟩ = some (.slice A2 ys.length c2) := (blk_cell hb 1).trans rfl
 clear hx hy hl hbw hb hs
 go_enter Try.func58, Try.ntmps58
 go_wp2
 go_loopg [3, 11] 2 (fun kq v3 v11 w' => ∃ (k : Nat) (z : Int), v11 = .int .i64 (k : Int) ∧ k ≤ 2 ∧ kq = 2 - k ∧ v3 = .int .i64 z ∧ Aside0 (z = if k = 0 then 0 else if k = 1 then (xs.length : Int) else (s : Int)) ∧ Aside0 (w = w'))
 case atStart => exact ⟨0, 0, rfl, by omega, rfl, rfl, ⟨rfl⟩, ⟨rfl⟩⟩
 case round =>
  obtain ⟨k, z, rfl, hk, hkq, rfl, HZ, HW⟩ := hrel
  obtain rfl := HW.out
  have HKQ := aM hkq
  clear hkq
  have hk3 : k = 0 ∨ k = 1 ∨ k = 2 := by omega
  rcases hk3 with rfl | rfl | rfl
  ·
   have hz := HZ.out
   rw [if_pos rfl] at hz
   subst hz
   clear hk
   go_wp2
   go_roundg 1
   case measure => have := HKQ.out; omega
   case rel => exact ⟨1, (xs.length : Int), by go_num, by omega, rfl, by go_num, ⟨by simp⟩, ⟨rfl⟩⟩
  ·
   have hz := HZ.out
   rw [if_neg (by decide), if_pos rfl] at hz
   subst hz
   have hs1 : ¬ (xs.length : Int) + (ys.length : Int) < 0 := by omega
   clear hk
   go_wp2
   go_roundg 0
   case measure => have := HKQ.out; omega
   case rel => exact ⟨2, (xs.length : Int) + (ys.length : Int), by go_num, by omega, rfl, rfl, ⟨by have := HS.out; simp; omega⟩, ⟨rfl⟩⟩
  ·
   have hz := HZ.out
   rw [if_neg (by decide), if_neg (by decide)] at hz
   subst hz
   clear hk
   go_wp2_with (go_at_call 80; go_loud ((with_reducible refine HG.out.mono ?_); rintro e w3 ⟨A3, c3, rfl, ho3, hb3⟩; have HO3 := aM ho3; have HB3 := aM hb3; clear ho3 hb3))
   clear hb0 hb1
   go_loopg [6, 27] 2 (fun kq v6 v27 w' => ∃ (k : Nat) (zs : List Pa), v27 = .int .i64 (k : Int) ∧ k ≤ 2 ∧ kq = 2 - k ∧ Aside0 (zs = (if k = 0 then [] else if k = 1 then xs else xs ++ ys)) ∧ Aside0 (Kd.R k80 80 w' w.heap.size (fun _ => True) v6 zs) ∧ Aside0 (Below w.heap.size w w'))
   case atStart => exact ⟨0, [], rfl, by omega, rfl, ⟨rfl⟩, HO3, HB3⟩
   case round =>
    obtain ⟨k, zs, rfl, hk, hkq, HZS, HO, HBr⟩ := hrel
    have HKQ2 := aM hkq
    clear hkq
    have HBB := (HBr.out.block b HBW.out).trans HB.out
    have hb0 : wr.cell? ⟨b, 0, none⟩ = some (.slice A1 xs.length c1) := (blk_cell HBB 0).trans rfl
    have hb1 : wr.cell? ⟨b, 1, none⟩ = some (.slice A2 ys.length c2) := (blk_cell HBB 1).trans rfl
    have HWS := aM HBr.out.size
    clear HBB
    have hk3 : k = 0 ∨ k = 1 ∨ k = 2 := by omega
    rcases hk3 with rfl | rfl | rfl
    ·
     have hz := HZS.out
     rw [if_pos rfl] at hz
     subst hz
     clear hk
     go_wp2_with (at_builtin; go_loud (refine Kd.R_append_rows k80 (Rr := (k80).K wr) (w0 := w) w.heap.size rfl (.tmp 31) (.tmp 32) 66 80 (.agg #[(.string ⟨#[]⟩), (.string ⟨#[]⟩)]) 32 rfl Try.underlying66 info80 rfl (by decide) (by decide) u6 [] xs A1 xs.length c1 (fun _ => True) (fun _ => False) rfl rfl HO.out (Kd.C_below HX.out HBr.out) (fun p cs h => by rw [k80_open h]; exact k80_mkM _ _ _ _) (fun _ h => h.elim) (fun _ _ => trivial) HBr.out HWS.out (by have := HL.out; simp; omega) ?_; intro v4 w4 ho4 hb4 hg4 hat4; have HO4 := aM ho4; have HB4 := aM hb4; clear ho4 hb4 hg4 hat4))
     go_roundg 1
     case measure => have := HKQ2.out; omega
     case rel => exact ⟨1, xs, by go_num, by omega, rfl, ⟨by simp⟩, by simpa using HO4, HB4⟩
    ·
     have hz := HZS.out
     rw [if_neg (by decide), if_pos rfl] at hz
     have HZ2 := aM hz
     have HLZ := aM (show zs.length = xs.length by rw [hz])
     clear hk hz
     go_wp2_with (at_builtin; go_loud (refine Kd.R_append_rows k80 (Rr := (k80).K wr) (w0 := w) w.heap.size rfl (.tmp 31) (.tmp 32) 66 80 (.agg #[(.string ⟨#[]⟩), (.string ⟨#[]⟩)]) 32 rfl Try.underlying66 info80 rfl (by decide) (by decide) u6 zs ys A2 ys.length c2 (fun _ => True) (fun _ => False) rfl rfl HO.out (Kd.C_below HY.out HBr.out) (fun p cs h => by rw [k80_open h]; exact k80_mkM _ _ _ _) (fun _ h => h.elim) (fun _ _ => trivial) HBr.out HWS.out (by have := HL.out; have := HLZ.out; omega) ?_; intro v4 w4 ho4 hb4 hg4 hat4; have HO4 := aM ho4; have HB4 := aM hb4; clear ho4 hb4 hg4 hat4))
     go_roundg 0
     case measure => have := HKQ2.out; omega
     case rel => exact ⟨2, _, by go_num, by omega, rfl, ⟨by simp [HZ2.out]⟩, HO4, HB4⟩
    ·
     have hz := HZS.out
     rw [if_neg (by decide), if_neg (by decide)] at hz
     subst hz
     clear hk
     go_wp2
     go_ret
     exact ⟨_, rfl, HO.out, HBr.out⟩
end Go.Proofs.Ytjknkeipginpcaa.TrG
end

section
namespace Go.Proofs.Ytjknkeipginpcaa.TrG
set_option linter.unusedVariables false
set_option linter.unusedSimpArgs false
open Go.RowKit Go.Proofs.Ytjknkeipginpcaa.PQ Go.Proofs.YtjknkeipginpcaaW.PrintWords Go.Proofs.YtjknkeipginpcaaW.PrintLast Go.Proofs.YtjknkeipginpcaaW.PrintMore Go.Proofs.Ytjknkeipginpcaa.Pre Go.Proofs.Ytjknkeipginpcaa.Tr Go.Proofs.Ytjknkeipginpcaa.Pr Go.Proofs.Ytjknkeipginpcaa.Po
attribute [local go_sem] Go.Proofs.Ytjknkeipginpcaa.StrO.leq_s Go.Proofs.Ytjknkeipginpcaa.StrO.gtr_s Go.Proofs.Ytjknkeipginpcaa.StrO.geq_s
/-- All of the first ahead of all of the second. -/
def jc (l m : List KV) : Bool := decide (l.length = 0) || (decide (m.length = 0) || ls (l.getD (l.length - 1) zKV).1 (m.getD 0 zKV).1)
/-- What JoinTreaps answers. -/
def jn (l : List KV) (ok : Bool) (m : List KV) (fine : Bool) : List Lb × Bool := if ok = true ∧ fine = true ∧ l.length + m.length ≤ 60 ∧ jc l m = true then (enc (l ++ m).length 0 (l ++ m), true) else ([], false)
theorem xblk_drewN {W : World} {b : Nat} {o : Obj} (h : W.heap[b]? = some o) (n : Nat) : (W.drewN n).heap[b]? = some o := h
set_option maxHeartbeats 4000000 in
set_option maxRecDepth 100000 in
theorem joinI_n1 (L1 L2 : List Lb) (A1 A2 : Option Addr) (c1 c2 : Nat) (ps qs : List S80) (ok fine : Bool) (w : World)
  (h1 : ∀ W, Below w.heap.size w W → Calls Try.prog 49 #[.agg #[.slice A1 L1.length c1]] W fun e w' => ∃ v, e = .returned (.tuple #[v, .bool ok]) ∧ Kd.R k80 80 w' W.heap.size (fun _ => True) v ps ∧ Below W.heap.size W w')
  (h2 : ∀ W, Below w.heap.size w W → Calls Try.prog 49 #[.agg #[.slice A2 L2.length c2]] W fun e w' => ∃ v, e = .returned (.tuple #[v, .bool fine]) ∧ Kd.R k80 80 w' W.heap.size (fun _ => True) v qs ∧ Below W.heap.size W w')
  (hp : ps.length ≤ 60) (hq : qs.length ≤ 60) (hok : ok = false) :
  Calls Try.prog 29 #[.agg #[.slice A1 L1.length c1], .agg #[.slice A2 L2.length c2]] w fun e w' => ∃ v0_ : Value, e = .returned (.tuple #[.agg #[v0_], .bool false]) ∧ Kd.R k71 71 w' w.heap.size (fun _ => True) v0_ [] ∧ Below w.heap.size w w' := by
 obtain ⟨wA, hwA⟩ : ∃ wA, wA = w.alloc (.cells #[.slice A1 L1.length c1] 29) := ⟨_, rfl⟩
 obtain ⟨wB, hwB⟩ : ∃ wB, wB = wA.alloc (.cells #[.slice A2 L2.length c2] 29) := ⟨_, rfl⟩
 obtain ⟨wC, hwC⟩ : ∃ wC, wC = wB.alloc (.cells #[.slice none 0 0] 29) := ⟨_, rfl⟩
 have HWA := aM hwA
 have HWB := aM hwB
 have HWC := aM hwC
 have hsA : wA.heap.size = w.heap.size + 1 := by rw [hwA]; exact new_size _ _
 have hsB : wB.heap.size = w.heap.size + 2 := by rw [hwB, new_size, hsA]
 have HSC := aM (show wC.heap.size = w.heap.size + 3 by rw [hwC, new_size, hsB])
 have hBA : Below w.heap.size w wA := by rw [hwA]; exact below_alloc (Below.refl _ _) _
 have hBB : Below w.heap.size w wB := by rw [hwB]; exact below_alloc hBA _
 have HBC := aM (show Below w.heap.size w wC by rw [hwC]; exact below_alloc hBB _)
 have HT1 := aM (show wC.heap[w.heap.size]? = some (.cells #[.slice A1 L1.length c1] 29 (0, 0)) by rw [hwC]; exact xblk_alloc (by rw [hwB]; exact xblk_alloc (by rw [hwA]; exact at_new _ _) _) _)
 have HT2 := aM (show wC.heap[w.heap.size + 1]? = some (.cells #[.slice A2 L2.length c2] 29 (0, 0)) by rw [hwC]; exact xblk_alloc (by rw [hwB, ← hsA]; exact at_new _ _) _)
 have HTR := aM (show wC.heap[w.heap.size + 2]? = some (.cells #[.slice none 0 0] 29 (0, 0)) by rw [hwC, ← hsB]; exact at_new _ _)
 have ct : (((w.alloc (.cells #[.slice A1 L1.length c1] 29)).alloc (.cells #[.slice A2 L2.length c2] 29)).alloc (.cells #[.slice none 0 0] 29)).cell? ⟨w.heap.size, 0, none⟩ = some (.slice A1 L1.length c1) := by rw [← hwA, ← hwB, ← hwC]; exact (blk_cell HT1.out 0).trans rfl
 have HP1 := aM (h1 wC HBC.out)
 have HP2 := aM h2
 have hpl : (ps.length : Int) ≤ 60 := by omega
 have hql : (qs.length : Int) ≤ 60 := by omega
 have HPQ := aM (⟨hp, hq⟩ : ps.length ≤ 60 ∧ qs.length ≤ 60)
 clear h1 h2 hwA hwB hwC hsA hsB hBA hBB hp hq
 subst hok
 go_enter Try.func29, Try.ntmps29
 go_upto_region 2 with (go_at_call 49; rw [← HWA.out, ← HWB.out, ← HWC.out]; go_loud ((with_reducible refine HP1.out.mono ?_); rintro e w2 ⟨v2, rfl, ho2, hb2⟩; have HO2 := aM ho2; have HB2 := aM hb2; clear ho2 hb2))
 clear ct
 have HBw2 := aM (HBC.out.trans (HB2.out.mono (by have := HSC.out; omega)))
 have HT22 := aM ((HB2.out.block (w.heap.size + 1) (by have := HSC.out; omega)).trans HT2.out)
 have ct2 : w2.cell? ⟨w.heap.size + 1, 0, none⟩ = some (.slice A2 L2.length c2) := (blk_cell HT22.out 0).trans rfl
 go_upto_region 3 with (go_at_call 49; go_loud ((with_reducible refine (HP2.out _ HBw2.out).mono ?_); rintro e w3 ⟨v3, rfl, ho3, hb3⟩; have HO3 := aM ho3; have HB3 := aM hb3; clear ho3 hb3))
 clear ct2
 have HBw3 := aM (HBw2.out.trans (HB3.out.mono (by have := HB2.out.size; have := HSC.out; omega)))
 have HTR3 := aM ((HB3.out.block (w.heap.size + 2) (by have := HB2.out.size; have := HSC.out; omega)).trans ((HB2.out.block (w.heap.size + 2) (by have := HSC.out; omega)).trans HTR.out))
 have HO23 := aM (Kd.R_below HO2.out HB3.out)
 obtain ⟨A3, c3, e3⟩ := Kd.R_slice HO23.out
 subst e3
 obtain ⟨A4, c4, e4⟩ := Kd.R_slice HO3.out
 subst e4
 have hw1 : IntKind.i64.wrap ((ps.length : Int) + (qs.length : Int)) = (ps.length : Int) + (qs.length : Int) := by rw [IntKind.wrap_i64]; omega
 have cr : w3.cell? ⟨w.heap.size + 2, 0, none⟩ = some (.slice none 0 0) := (blk_cell HTR3.out 0).trans rfl
 have fr : w3.frozen? ⟨w.heap.size + 2, 0, none⟩ = false := blk_frozen HTR3.out 0
 go_quiet (fail)
 go_wp2
 refine bodyPost_ret (results_ct rfl _ _ (w.heap.size + 2) 29 #[.slice none 0 0] (0, 0) _ rfl (blk_put (xblk_drewN HTR3.out _) 0 _ rfl) Try.underlying29 rfl (by kernel_rfl)) rfl ?_
 exact ⟨_, rfl, Kd.R_nil _ _ _ _ _, (pw_below_drewN HBw3.out _).setCell (p := ⟨w.heap.size + 2, 0, none⟩) (by show w.heap.size ≤ w.heap.size + 2; omega) _⟩
set_option maxHeartbeats 4000000 in
set_option maxRecDepth 100000 in
theorem joinI_n2 (L1 L2 : List Lb) (A1 A2 : Option Addr) (c1 c2 : Nat) (ps qs : List S80) (ok fine : Bool) (w : World)
  (h1 : ∀ W, Below w.heap.size w W → Calls Try.prog 49 #[.agg #[.slice A1 L1.length c1]] W fun e w' => ∃ v, e = .returned (.tuple #[v, .bool ok]) ∧ Kd.R k80 80 w' W.heap.size (fun _ => True) v ps ∧ Below W.heap.size W w')
  (h2 : ∀ W, Below w.heap.size w W → Calls Try.prog 49 #[.agg #[.slice A2 L2.length c2]] W fun e w' => ∃ v, e = .returned (.tuple #[v, .bool fine]) ∧ Kd.R k80 80 w' W.heap.size (fun _ => True) v qs ∧ Below W.heap.size W w')
  (hp : ps.length ≤ 60) (hq : qs.length ≤ 60) (hok : ok = true) (hfi : fine = false) :
  Calls Try.prog 29 #[.agg #[.slice A1 L1.length c1], .agg #[.slice A2 L2.length c2]] w fun e w' => ∃ v0_ : Value, e = .returned (.tuple #[.agg #[v0_], .bool false]) ∧ Kd.R k71 71 w' w.heap.size (fun _ => True) v0_ [] ∧ Below w.heap.size w w' := by
 obtain ⟨wA, hwA⟩ : ∃ wA, wA = w.alloc (.cells #[.slice A1 L1.length c1] 29) := ⟨_, rfl⟩
 obtain ⟨wB, hwB⟩ : ∃ wB, wB = wA.alloc (.cells #[.slice A2 L2.length c2] 29) := ⟨_, rfl⟩
 obtain ⟨wC, hwC⟩ : ∃ wC, wC = wB.alloc (.cells #[.slice none 0 0] 29) := ⟨_, rfl⟩
 have HWA := aM hwA
 have HWB := aM hwB
 have HWC := aM hwC
 have hsA : wA.heap.size = w.heap.size + 1 := by rw [hwA]; exact new_size _ _
 have hsB : wB.heap.size = w.heap.size + 2 := by rw [hwB, new_size, hsA]
 have HSC := aM (show wC.heap.size = w.heap.size + 3 by rw [hwC, new_size, hsB])
 have hBA : Below w.heap.size w wA := by rw [hwA]; exact below_alloc (Below.refl _ _) _
 have hBB : Below w.heap.size w wB := by rw [hwB]; exact below_alloc hBA _
 have HBC := aM (show Below w.heap.size w wC by rw [hwC]; exact below_alloc hBB _)
 have HT1 := aM (show wC.heap[w.heap.size]? = some (.cells #[.slice A1 L1.length c1] 29 (0, 0)) by rw [hwC]; exact xblk_alloc (by rw [hwB]; exact xblk_alloc (by rw [hwA]; exact at_new _ _) _) _)
 have HT2 := aM (show wC.heap[w.heap.size + 1]? = some (.cells #[.slice A2 L2.length c2] 29 (0, 0)) by rw [hwC]; exact xblk_alloc (by rw [hwB, ← hsA]; exact at_new _ _) _)
 have HTR := aM (show wC.heap[w.heap.size + 2]? = some (.cells #[.slice none 0 0] 29 (0, 0)) by rw [hwC, ← hsB]; exact at_new _ _)
 have ct : (((w.alloc (.cells #[.slice A1 L1.length c1] 29)).alloc (.cells #[.slice A2 L2.length c2] 29)).alloc (.cells #[.slice none 0 0] 29)).cell? ⟨w.heap.size, 0, none⟩ = some (.slice A1 L1.length c1) := by rw [← hwA, ← hwB, ← hwC]; exact (blk_cell HT1.out 0).trans rfl
 have HP1 := aM (h1 wC HBC.out)
 have HP2 := aM h2
 have hpl : (ps.length : Int) ≤ 60 := by omega
 have hql : (qs.length : Int) ≤ 60 := by omega
 have HPQ := aM (⟨hp, hq⟩ : ps.length ≤ 60 ∧ qs.length ≤ 60)
 clear h1 h2 hwA hwB hwC hsA hsB hBA hBB hp hq
 subst hok hfi
 go_enter Try.func29, Try.ntmps29
 go_upto_region 2 with (go_at_call 49; rw [← HWA.out, ← HWB.out, ← HWC.out]; go_loud ((with_reducible refine HP1.out.mono ?_); rintro e w2 ⟨v2, rfl, ho2, hb2⟩; have HO2 := aM ho2; have HB2 := aM hb2; clear ho2 hb2))
 clear ct
 have HBw2 := aM (HBC.out.trans (HB2.out.mono (by have := HSC.out; omega)))
 have HT22 := aM ((HB2.out.block (w.heap.size + 1) (by have := HSC.out; omega)).trans HT2.out)
 have ct2 : w2.cell? ⟨w.heap.size + 1, 0, none⟩ = some (.slice A2 L2.length c2) := (blk_cell HT22.out 0).trans rfl
 go_upto_region 3 with (go_at_call 49; go_loud ((with_reducible refine (HP2.out _ HBw2.out).mono ?_); rintro e w3 ⟨v3, rfl, ho3, hb3⟩; have HO3 := aM ho3; have HB3 := aM hb3; clear ho3 hb3))
 clear ct2
 have HBw3 := aM (HBw2.out.trans (HB3.out.mono (by have := HB2.out.size; have := HSC.out; omega)))
 have HTR3 := aM ((HB3.out.block (w.heap.size + 2) (by have := HB2.out.size; have := HSC.out; omega)).trans ((HB2.out.block (w.heap.size + 2) (by have := HSC.out; omega)).trans HTR.out))
 have HO23 := aM (Kd.R_below HO2.out HB3.out)
 obtain ⟨A3, c3, e3⟩ := Kd.R_slice HO23.out
 subst e3
 obtain ⟨A4, c4, e4⟩ := Kd.R_slice HO3.out
 subst e4
 have hw1 : IntKind.i64.wrap ((ps.length : Int) + (qs.length : Int)) = (ps.length : Int) + (qs.length : Int) := by rw [IntKind.wrap_i64]; omega
 have cr : w3.cell? ⟨w.heap.size + 2, 0, none⟩ = some (.slice none 0 0) := (blk_cell HTR3.out 0).trans rfl
 have fr : w3.frozen? ⟨w.heap.size + 2, 0, none⟩ = false := blk_frozen HTR3.out 0
 go_quiet (fail)
 go_wp2
 refine bodyPost_ret (results_ct rfl _ _ (w.heap.size + 2) 29 #[.slice none 0 0] (0, 0) _ rfl (blk_put (xblk_drewN HTR3.out _) 0 _ rfl) Try.underlying29 rfl (by kernel_rfl)) rfl ?_
 exact ⟨_, rfl, Kd.R_nil _ _ _ _ _, (pw_below_drewN HBw3.out _).setCell (p := ⟨w.heap.size + 2, 0, none⟩) (by show w.heap.size ≤ w.heap.size + 2; omega) _⟩
set_option maxHeartbeats 4000000 in
set_option maxRecDepth 100000 in
theorem joinI_n3 (L1 L2 : List Lb) (A1 A2 : Option Addr) (c1 c2 : Nat) (ps qs : List S80) (ok fine : Bool) (w : World)
  (h1 : ∀ W, Below w.heap.size w W → Calls Try.prog 49 #[.agg #[.slice A1 L1.length c1]] W fun e w' => ∃ v, e = .returned (.tuple #[v, .bool ok]) ∧ Kd.R k80 80 w' W.heap.size (fun _ => True) v ps ∧ Below W.heap.size W w')
  (h2 : ∀ W, Below w.heap.size w W → Calls Try.prog 49 #[.agg #[.slice A2 L2.length c2]] W fun e w' => ∃ v, e = .returned (.tuple #[v, .bool fine]) ∧ Kd.R k80 80 w' W.heap.size (fun _ => True) v qs ∧ Below W.heap.size W w')
  (hp : ps.length ≤ 60) (hq : qs.length ≤ 60) (hok : ok = true) (hfi : fine = true) (hbig : ¬ ps.length + qs.length ≤ 60) :
  Calls Try.prog 29 #[.agg #[.slice A1 L1.length c1], .agg #[.slice A2 L2.length c2]] w fun e w' => ∃ v0_ : Value, e = .returned (.tuple #[.agg #[v0_], .bool false]) ∧ Kd.R k71 71 w' w.heap.size (fun _ => True) v0_ [] ∧ Below w.heap.size w w' := by
 obtain ⟨wA, hwA⟩ : ∃ wA, wA = w.alloc (.cells #[.slice A1 L1.length c1] 29) := ⟨_, rfl⟩
 obtain ⟨wB, hwB⟩ : ∃ wB, wB = wA.alloc (.cells #[.slice A2 L2.length c2] 29) := ⟨_, rfl⟩
 obtain ⟨wC, hwC⟩ : ∃ wC, wC = wB.alloc (.cells #[.slice none 0 0] 29) := ⟨_, rfl⟩
 have HWA := aM hwA
 have HWB := aM hwB
 have HWC := aM hwC
 have hsA : wA.heap.size = w.heap.size + 1 := by rw [hwA]; exact new_size _ _
 have hsB : wB.heap.size = w.heap.size + 2 := by rw [hwB, new_size, hsA]
 have HSC := aM (show wC.heap.size = w.heap.size + 3 by rw [hwC, new_size, hsB])
 have hBA : Below w.heap.size w wA := by rw [hwA]; exact below_alloc (Below.refl _ _) _
 have hBB : Below w.heap.size w wB := by rw [hwB]; exact below_alloc hBA _
 have HBC := aM (show Below w.heap.size w wC by rw [hwC]; exact below_alloc hBB _)
 have HT1 := aM (show wC.heap[w.heap.size]? = some (.cells #[.slice A1 L1.length c1] 29 (0, 0)) by rw [hwC]; exact xblk_alloc (by rw [hwB]; exact xblk_alloc (by rw [hwA]; exact at_new _ _) _) _)
 have HT2 := aM (show wC.heap[w.heap.size + 1]? = some (.cells #[.slice A2 L2.length c2] 29 (0, 0)) by rw [hwC]; exact xblk_alloc (by rw [hwB, ← hsA]; exact at_new _ _) _)
 have HTR := aM (show wC.heap[w.heap.size + 2]? = some (.cells #[.slice none 0 0] 29 (0, 0)) by rw [hwC, ← hsB]; exact at_new _ _)
 have ct : (((w.alloc (.cells #[.slice A1 L1.length c1] 29)).alloc (.cells #[.slice A2 L2.length c2] 29)).alloc (.cells #[.slice none 0 0] 29)).cell? ⟨w.heap.size, 0, none⟩ = some (.slice A1 L1.length c1) := by rw [← hwA, ← hwB, ← hwC]; exact (blk_cell HT1.out 0).trans rfl
 have HP1 := aM (h1 wC HBC.out)
 have HP2 := aM h2
 have hpl : (ps.length : Int) ≤ 60 := by omega
 have hql : (qs.length : Int) ≤ 60 := by omega
 have HPQ := aM (⟨hp, hq⟩ : ps.length ≤ 60 ∧ qs.length ≤ 60)
 clear h1 h2 hwA hwB hwC hsA hsB hBA hBB hp hq
 subst hok hfi
 have t1 : decide ((60 : Int) < (ps.length : Int) + (qs.length : Int)) = true := decide_eq_true (by omega)
 have t1' : (60 : Int) < (ps.length : Int) + (qs.length : Int) := by omega
 clear hbig
 go_enter Try.func29, Try.ntmps29
 go_upto_region 2 with (go_at_call 49; rw [← HWA.out, ← HWB.out, ← HWC.out]; go_loud ((with_reducible refine HP1.out.mono ?_); rintro e w2 ⟨v2, rfl, ho2, hb2⟩; have HO2 := aM ho2; have HB2 := aM hb2; clear ho2 hb2))
 clear ct
 have HBw2 := aM (HBC.out.trans (HB2.out.mono (by have := HSC.out; omega)))
 have HT22 := aM ((HB2.out.block (w.heap.size + 1) (by have := HSC.out; omega)).trans HT2.out)
 have ct2 : w2.cell? ⟨w.heap.size + 1, 0, none⟩ = some (.slice A2 L2.length c2) := (blk_cell HT22.out 0).trans rfl
 go_upto_region 3 with (go_at_call 49; go_loud ((with_reducible refine (HP2.out _ HBw2.out).mono ?_); rintro e w3 ⟨v3, rfl, ho3, hb3⟩; have HO3 := aM ho3; have HB3 := aM hb3; clear ho3 hb3))
 clear ct2
 have HBw3 := aM (HBw2.out.trans (HB3.out.mono (by have := HB2.out.size; have := HSC.out; omega)))
 have HTR3 := aM ((HB3.out.block (w.heap.size + 2) (by have := HB2.out.size; have := HSC.out; omega)).trans ((HB2.out.block (w.heap.size + 2) (by have := HSC.out; omega)).trans HTR.out))
 have HO23 := aM (Kd.R_below HO2.out HB3.out)
 obtain ⟨A3, c3, e3⟩ := Kd.R_slice HO23.out
 subst e3
 obtain ⟨A4, c4, e4⟩ := Kd.R_slice HO3.out
 subst e4
 have hw1 : IntKind.i64.wrap ((ps.length : Int) + (qs.length : Int)) = (ps.length : Int) + (qs.length : Int) := by rw [IntKind.wrap_i64]; omega
 have cr : w3.cell? ⟨w.heap.size + 2, 0, none⟩ = some (.slice none 0 0) := (blk_cell HTR3.out 0).trans rfl
 have fr : w3.frozen? ⟨w.heap.size + 2, 0, none⟩ = false := blk_frozen HTR3.out 0
 go_quiet (fail)
 go_wp2
 refine bodyPost_ret (results_ct rfl _ _ (w.heap.size + 2) 29 #[.slice none 0 0] (0, 0) _ rfl (blk_put (xblk_drewN HTR3.out _) 0 _ rfl) Try.underlying29 rfl (by kernel_rfl)) rfl ?_
 exact ⟨_, rfl, Kd.R_nil _ _ _ _ _, (pw_below_drewN HBw3.out _).setCell (p := ⟨w.heap.size + 2, 0, none⟩) (by show w.heap.size ≤ w.heap.size + 2; omega) _⟩
set_option maxHeartbeats 4000000 in
set_option maxRecDepth 100000 in
theorem joinI_n4 (L1 L2 : List Lb) (A1 A2 : Option Addr) (c1 c2 : Nat) (ps qs : List S80) (ok fine : Bool) (w : World)
  (h1 : ∀ W, Below w.heap.size w W → Calls Try.prog 49 #[.agg #[.slice A1 L1.length c1]] W fun e w' => ∃ v, e = .returned (.tuple #[v, .bool ok]) ∧ Kd.R k80 80 w' W.heap.size (fun _ => True) v ps ∧ Below W.heap.size W w')
  (h2 : ∀ W, Below w.heap.size w W → Calls Try.prog 49 #[.agg #[.slice A2 L2.length c2]] W fun e w' => ∃ v, e = .returned (.tuple #[v, .bool fine]) ∧ Kd.R k80 80 w' W.heap.size (fun _ => True) v qs ∧ Below W.heap.size W w')
  (hp : ps.length ≤ 60) (hq : qs.length ≤ 60) (hok : ok = true) (hfi : fine = true) (hsum : ps.length + qs.length ≤ 60) (hx0 : ¬ ps.length = 0) (hy0 : ¬ qs.length = 0) (hge : Op.bytesLess (rd_T80 ps ((ps.length - 1 : Nat) : Int)).f0.toList (rd_T80 qs ((0 : Nat) : Int)).f0.toList = false) :
  Calls Try.prog 29 #[.agg #[.slice A1 L1.length c1], .agg #[.slice A2 L2.length c2]] w fun e w' => ∃ v0_ : Value, e = .returned (.tuple #[.agg #[v0_], .bool false]) ∧ Kd.R k71 71 w' w.heap.size (fun _ => True) v0_ [] ∧ Below w.heap.size w w' := by
 obtain ⟨wA, hwA⟩ : ∃ wA, wA = w.alloc (.cells #[.slice A1 L1.length c1] 29) := ⟨_, rfl⟩
 obtain ⟨wB, hwB⟩ : ∃ wB, wB = wA.alloc (.cells #[.slice A2 L2.length c2] 29) := ⟨_, rfl⟩
 obtain ⟨wC, hwC⟩ : ∃ wC, wC = wB.alloc (.cells #[.slice none 0 0] 29) := ⟨_, rfl⟩
 have HWA := aM hwA
 have HWB := aM hwB
 have HWC := aM hwC
 have hsA : wA.heap.size = w.heap.size + 1 := by rw [hwA]; exact new_size _ _
 have hsB : wB.heap.size = w.heap.size + 2 := by rw [hwB, new_size, hsA]
 have HSC := aM (show wC.heap.size = w.heap.size + 3 by rw [hwC, new_size, hsB])
 have hBA : Below w.heap.size w wA := by rw [hwA]; exact below_alloc (Below.refl _ _) _
 have hBB : Below w.heap.size w wB := by rw [hwB]; exact below_alloc hBA _
 have HBC := aM (show Below w.heap.size w wC by rw [hwC]; exact below_alloc hBB _)
 have HT1 := aM (show wC.heap[w.heap.size]? = some (.cells #[.slice A1 L1.length c1] 29 (0, 0)) by rw [hwC]; exact xblk_alloc (by rw [hwB]; exact xblk_alloc (by rw [hwA]; exact at_new _ _) _) _)
 have HT2 := aM (show wC.heap[w.heap.size + 1]? = some (.cells #[.slice A2 L2.length c2] 29 (0, 0)) by rw [hwC]; exact xblk_alloc (by rw [hwB, ← hsA]; exact at_new _ _) _)
 have HTR := aM (show wC.heap[w.heap.size + 2]? = some (.cells #[.slice none 0 0] 29 (0, 0)) by rw [hwC, ← hsB]; exact at_new _ _)
 have ct : (((w.alloc (.cells #[.slice A1 L1.length c1] 29)).alloc (.cells #[.slice A2 L2.length c2] 29)).alloc (.cells #[.slice none 0 0] 29)).cell? ⟨w.heap.size, 0, none⟩ = some (.slice A1 L1.length c1) := by rw [← hwA, ← hwB, ← hwC]; exact (blk_cell HT1.out 0).trans rfl
 have HP1 := aM (h1 wC HBC.out)
 have HP2 := aM h2
 have hpl : (ps.length : Int) ≤ 60 := by omega
 have hql : (qs.length : Int) ≤ 60 := by omega
 have HPQ := aM (⟨hp, hq⟩ : ps.length ≤ 60 ∧ qs.length ≤ 60)
 clear h1 h2 hwA hwB hwC hsA hsB hBA hBB hp hq
 subst hok hfi
 have t1 : decide ((60 : Int) < (ps.length : Int) + (qs.length : Int)) = false := decide_eq_false (by omega)
 have t1' : ¬ (60 : Int) < (ps.length : Int) + (qs.length : Int) := by omega
 have HSUM := aM hsum
 have t2 : decide ((0 : Int) < (ps.length : Int)) = true := decide_eq_true (by omega)
 have t2' :  (0 : Int) < (ps.length : Int) := by omega
 have t2n : decide (0 < ps.length) = true := decide_eq_true (by omega)
 have t2n' :  0 < ps.length := by omega
 have t3 : decide ((0 : Int) < (qs.length : Int)) = true := decide_eq_true (by omega)
 have t3' :  (0 : Int) < (qs.length : Int) := by omega
 have t3n : decide (0 < qs.length) = true := decide_eq_true (by omega)
 have t3n' :  0 < qs.length := by omega
 go_enter Try.func29, Try.ntmps29
 go_upto_region 2 with (go_at_call 49; rw [← HWA.out, ← HWB.out, ← HWC.out]; go_loud ((with_reducible refine HP1.out.mono ?_); rintro e w2 ⟨v2, rfl, ho2, hb2⟩; have HO2 := aM ho2; have HB2 := aM hb2; clear ho2 hb2))
 clear ct
 have HBw2 := aM (HBC.out.trans (HB2.out.mono (by have := HSC.out; omega)))
 have HT22 := aM ((HB2.out.block (w.heap.size + 1) (by have := HSC.out; omega)).trans HT2.out)
 have ct2 : w2.cell? ⟨w.heap.size + 1, 0, none⟩ = some (.slice A2 L2.length c2) := (blk_cell HT22.out 0).trans rfl
 go_upto_region 3 with (go_at_call 49; go_loud ((with_reducible refine (HP2.out _ HBw2.out).mono ?_); rintro e w3 ⟨v3, rfl, ho3, hb3⟩; have HO3 := aM ho3; have HB3 := aM hb3; clear ho3 hb3))
 clear ct2
 have HBw3 := aM (HBw2.out.trans (HB3.out.mono (by have := HB2.out.size; have := HSC.out; omega)))
 have HTR3 := aM ((HB3.out.block (w.heap.size + 2) (by have := HB2.out.size; have := HSC.out; omega)).trans ((HB2.out.block (w.heap.size + 2) (by have := HSC.out; omega)).trans HTR.out))
 have HO23 := aM (Kd.R_below HO2.out HB3.out)
 obtain ⟨A3, c3, e3⟩ := Kd.R_slice HO23.out
 subst e3
 obtain ⟨A4, c4, e4⟩ := Kd.R_slice HO3.out
 subst e4
 have hw1 : IntKind.i64.wrap ((ps.length : Int) + (qs.length : Int)) = (ps.length : Int) + (qs.length : Int) := by rw [IntKind.wrap_i64]; omega
 obtain ⟨m, hm⟩ : ∃ m, m = ps.length - 1 := ⟨_, rfl⟩
 rw [← hm] at hge
 have hw2 : IntKind.i64.wrap ((ps.length : Int) - 1) = (m : Int) := by rw [IntKind.wrap_i64]; omega
 have hm0 : (m : Int) < (ps.length : Int) := by omega
 obtain ⟨a1, e1, x0, _⟩ := at_T80 (Kd.reads1 HO23.out) (m : Int) (by omega) (by omega)
 obtain ⟨a2, e2, y0, _⟩ := at_T80 (Kd.reads1 HO3.out) ((0 : Nat) : Int) (by omega) (by omega)
 rw [Int.toNat_natCast] at x0 y0
 rw [Nat.zero_mul] at y0
 have ez : a2.add 0 = a2 := rfl
 rw [ez] at y0
 subst e1 e2
 generalize (rd_T80 ps (m : Int)).f0 = k1 at *
 generalize (rd_T80 qs ((0 : Nat) : Int)).f0 = k2 at *
 clear hm ez
 clear hx0 hy0 hsum
 have cr : w3.cell? ⟨w.heap.size + 2, 0, none⟩ = some (.slice none 0 0) := (blk_cell HTR3.out 0).trans rfl
 have fr : w3.frozen? ⟨w.heap.size + 2, 0, none⟩ = false := blk_frozen HTR3.out 0
 go_quiet (fail)
 go_wp2
 refine bodyPost_ret (results_ct rfl _ _ (w.heap.size + 2) 29 #[.slice none 0 0] (0, 0) _ rfl (blk_put (xblk_drewN HTR3.out _) 0 _ rfl) Try.underlying29 rfl (by kernel_rfl)) rfl ?_
 exact ⟨_, rfl, Kd.R_nil _ _ _ _ _, (pw_below_drewN HBw3.out _).setCell (p := ⟨w.heap.size + 2, 0, none⟩) (by show w.heap.size ≤ w.heap.size + 2; omega) _⟩
set_option maxHeartbeats 4000000 in
set_option maxRecDepth 100000 in
theorem joinI_y1 (L1 L2 : List Lb) (A1 A2 : Option Addr) (c1 c2 : Nat) (ps qs : List S80) (ok fine : Bool) (w : World)
  (h1 : ∀ W, Below w.heap.size w W → Calls Try.prog 49 #[.agg #[.slice A1 L1.length c1]] W fun e w' => ∃ v, e = .returned (.tuple #[v, .bool ok]) ∧ Kd.R k80 80 w' W.heap.size (fun _ => True) v ps ∧ Below W.heap.size W w')
  (h2 : ∀ W, Below w.heap.size w W → Calls Try.prog 49 #[.agg #[.slice A2 L2.length c2]] W fun e w' => ∃ v, e = .returned (.tuple #[v, .bool fine]) ∧ Kd.R k80 80 w' W.heap.size (fun _ => True) v qs ∧ Below W.heap.size W w')
  (hp : ps.length ≤ 60) (hq : qs.length ≤ 60) (hok : ok = true) (hfi : fine = true) (hsum : ps.length + qs.length ≤ 60) (hx0 : ps.length = 0) (hks : ∀ i : Nat, i < (ps ++ qs).length → (rd_T80 (ps ++ qs) (i : Int)).f0.size ≤ 1048576) :
  Calls Try.prog 29 #[.agg #[.slice A1 L1.length c1], .agg #[.slice A2 L2.length c2]] w fun e w' => ∃ v0_ : Value, e = .returned (.tuple #[.agg #[v0_], .bool true]) ∧ Kd.R k71 71 w' w.heap.size (fun _ => True) v0_ (enc (ps.map BuI.kv ++ qs.map BuI.kv).length 0 (ps.map BuI.kv ++ qs.map BuI.kv)) ∧ Below w.heap.size w w' := by
 obtain ⟨wA, hwA⟩ : ∃ wA, wA = w.alloc (.cells #[.slice A1 L1.length c1] 29) := ⟨_, rfl⟩
 obtain ⟨wB, hwB⟩ : ∃ wB, wB = wA.alloc (.cells #[.slice A2 L2.length c2] 29) := ⟨_, rfl⟩
 obtain ⟨wC, hwC⟩ : ∃ wC, wC = wB.alloc (.cells #[.slice none 0 0] 29) := ⟨_, rfl⟩
 have HWA := aM hwA
 have HWB := aM hwB
 have HWC := aM hwC
 have hsA : wA.heap.size = w.heap.size + 1 := by rw [hwA]; exact new_size _ _
 have hsB : wB.heap.size = w.heap.size + 2 := by rw [hwB, new_size, hsA]
 have HSC := aM (show wC.heap.size = w.heap.size + 3 by rw [hwC, new_size, hsB])
 have hBA : Below w.heap.size w wA := by rw [hwA]; exact below_alloc (Below.refl _ _) _
 have hBB : Below w.heap.size w wB := by rw [hwB]; exact below_alloc hBA _
 have HBC := aM (show Below w.heap.size w wC by rw [hwC]; exact below_alloc hBB _)
 have HT1 := aM (show wC.heap[w.heap.size]? = some (.cells #[.slice A1 L1.length c1] 29 (0, 0)) by rw [hwC]; exact xblk_alloc (by rw [hwB]; exact xblk_alloc (by rw [hwA]; exact at_new _ _) _) _)
 have HT2 := aM (show wC.heap[w.heap.size + 1]? = some (.cells #[.slice A2 L2.length c2] 29 (0, 0)) by rw [hwC]; exact xblk_alloc (by rw [hwB, ← hsA]; exact at_new _ _) _)
 have HTR := aM (show wC.heap[w.heap.size + 2]? = some (.cells #[.slice none 0 0] 29 (0, 0)) by rw [hwC, ← hsB]; exact at_new _ _)
 have ct : (((w.alloc (.cells #[.slice A1 L1.length c1] 29)).alloc (.cells #[.slice A2 L2.length c2] 29)).alloc (.cells #[.slice none 0 0] 29)).cell? ⟨w.heap.size, 0, none⟩ = some (.slice A1 L1.length c1) := by rw [← hwA, ← hwB, ← hwC]; exact (blk_cell HT1.out 0).trans rfl
 have HP1 := aM (h1 wC HBC.out)
 have HP2 := aM h2
 have hpl : (ps.length : Int) ≤ 60 := by omega
 have hql : (qs.length : Int) ≤ 60 := by omega
 have HPQ := aM (⟨hp, hq⟩ : ps.length ≤ 60 ∧ qs.length ≤ 60)
 clear h1 h2 hwA hwB hwC hsA hsB hBA hBB hp hq
 subst hok hfi
 obtain ⟨zs, hzs⟩ : ∃ zs, zs = enc (ps.map BuI.kv ++ qs.map BuI.kv).length 0 (ps.map BuI.kv ++ qs.map BuI.kv) := ⟨_, rfl⟩
 rw [← hzs]
 obtain ⟨rs, hrs⟩ : ∃ rs, rs = ps ++ qs := ⟨_, rfl⟩
 have HRS := aM hrs
 rw [← hrs] at hks
 have HZ := aM (show zs = enc rs.length 0 (rs.map BuI.kv) by rw [hzs, hrs, ← List.map_append, List.length_map])
 have HKS := aM hks
 have HRL := aM (show rs.length ≤ 1048576 by have := HPQ.out; rw [hrs, List.length_append]; omega)
 clear hzs hks hrs
 have t1 : decide ((60 : Int) < (ps.length : Int) + (qs.length : Int)) = false := decide_eq_false (by omega)
 have t1' : ¬ (60 : Int) < (ps.length : Int) + (qs.length : Int) := by omega
 have HSUM := aM hsum
 have t2 : decide ((0 : Int) < (ps.length : Int)) = false := decide_eq_false (by omega)
 have t2' : ¬ (0 : Int) < (ps.length : Int) := by omega
 have t2n : decide (0 < ps.length) = false := decide_eq_false (by omega)
 have t2n' : ¬ 0 < ps.length := by omega
 go_enter Try.func29, Try.ntmps29
 go_upto_region 2 with (go_at_call 49; rw [← HWA.out, ← HWB.out, ← HWC.out]; go_loud ((with_reducible refine HP1.out.mono ?_); rintro e w2 ⟨v2, rfl, ho2, hb2⟩; have HO2 := aM ho2; have HB2 := aM hb2; clear ho2 hb2))
 clear ct
 have HBw2 := aM (HBC.out.trans (HB2.out.mono (by have := HSC.out; omega)))
 have HT22 := aM ((HB2.out.block (w.heap.size + 1) (by have := HSC.out; omega)).trans HT2.out)
 have ct2 : w2.cell? ⟨w.heap.size + 1, 0, none⟩ = some (.slice A2 L2.length c2) := (blk_cell HT22.out 0).trans rfl
 go_upto_region 3 with (go_at_call 49; go_loud ((with_reducible refine (HP2.out _ HBw2.out).mono ?_); rintro e w3 ⟨v3, rfl, ho3, hb3⟩; have HO3 := aM ho3; have HB3 := aM hb3; clear ho3 hb3))
 clear ct2
 have HBw3 := aM (HBw2.out.trans (HB3.out.mono (by have := HB2.out.size; have := HSC.out; omega)))
 have HTR3 := aM ((HB3.out.block (w.heap.size + 2) (by have := HB2.out.size; have := HSC.out; omega)).trans ((HB2.out.block (w.heap.size + 2) (by have := HSC.out; omega)).trans HTR.out))
 have HO23 := aM (Kd.R_below HO2.out HB3.out)
 obtain ⟨A3, c3, e3⟩ := Kd.R_slice HO23.out
 subst e3
 obtain ⟨A4, c4, e4⟩ := Kd.R_slice HO3.out
 subst e4
 have hw1 : IntKind.i64.wrap ((ps.length : Int) + (qs.length : Int)) = (ps.length : Int) + (qs.length : Int) := by rw [IntKind.wrap_i64]; omega
 clear hx0 hsum
 have HCC := aM (fun nq : Nat => concat A3 A4 c3 c4 ps qs w3.heap.size ((w3.drewN nq).alloc (.cells #[.slice A3 ps.length c3, .slice A4 qs.length c4] 66)) (at_new (w3.drewN nq) _) (Kd.C_below (Kd.reads1 HO23.out) (below_alloc (pw_below_drewN (Below.refl _ _) nq) _)) (Kd.C_below (Kd.reads1 HO3.out) (below_alloc (pw_below_drewN (Below.refl _ _) nq) _)) (by have := HPQ.out; omega))
 have HBD := aM (fun nq : Nat => (below_alloc (pw_below_drewN (Below.refl w3.heap.size w3) nq) (.cells #[.slice A3 ps.length c3, .slice A4 qs.length c4] 66) : Below w3.heap.size w3 ((w3.drewN nq).alloc (.cells #[.slice A3 ps.length c3, .slice A4 qs.length c4] 66))))
 go_quiet (fail)
 go_wp2_with (first
  | (go_at_call 58; go_loud ((with_reducible refine (HCC.out _).mono ?_); rintro e w5 ⟨v5, rfl, ho5, hb5⟩; rw [← HRS.out] at ho5; obtain ⟨A5, c5, e5⟩ := Kd.R_slice ho5; subst e5; have HO5 := aM ho5; have HB5 := aM ((HBD.out _).trans (hb5.mono (HBD.out _).size)); have HT6 := aM (Tr.treapI rs A5 c5 w5 (Kd.reads1 ho5) (Kd.reads2 ho5) HRL.out HKS.out); clear ho5 hb5))
  | (go_at_call 57; go_loud ((with_reducible refine HT6.out.mono ?_); rintro e w7 ⟨v7, rfl, ho7, hb7⟩; rw [← HZ.out] at ho7; obtain ⟨A7, c7, e7⟩ := Kd.R_slice ho7; subst e7; have HO7 := aM ho7; have HB7 := aM hb7; have HR7 := aM ((hb7.block (w.heap.size + 2) (by have := HB5.out.size; have := HB3.out.size; have := HB2.out.size; have := HSC.out; omega)).trans ((HB5.out.block (w.heap.size + 2) (by have := HB3.out.size; have := HB2.out.size; have := HSC.out; omega)).trans HTR3.out)); have cr : w7.cell? ⟨w.heap.size + 2, 0, none⟩ = some (.slice none 0 0) := (blk_cell HR7.out 0).trans rfl; have fr : w7.frozen? ⟨w.heap.size + 2, 0, none⟩ = false := blk_frozen HR7.out 0; clear ho7 hb7)))
 refine bodyPost_ret (results_ct rfl _ _ (w.heap.size + 2) 29 #[.slice A7 zs.length c7] (0, 0) _ rfl (blk_put HR7.out 0 _ rfl) Try.underlying29 rfl (by kernel_rfl)) rfl ?_
 have hs5 : w.heap.size + 3 ≤ w5.heap.size := by have := HB5.out.size; have := HB3.out.size; have := HB2.out.size; have := HSC.out; omega
 have HBw := (HBw3.out.trans (HB5.out.mono (by have := HB3.out.size; have := HB2.out.size; have := HSC.out; omega))).trans (HB7.out.mono (by omega))
 refine ⟨_, rfl, ?_, HBw.setCell (p := ⟨w.heap.size + 2, 0, none⟩) (by show w.heap.size ≤ w.heap.size + 2; omega) _⟩
 have h1 := Kd.R_far (p := ⟨w.heap.size + 2, 0, none⟩) (Kd.R_bound HO7.out) (fun k hk => by have h1 := hk.2.1; show k ≠ w.heap.size + 2; omega) (.slice A7 zs.length c7)
 exact Kd.R_mono (Kd.R_lower h1 (by omega)) (fun _ _ => trivial)
set_option maxHeartbeats 4000000 in
set_option maxRecDepth 100000 in
theorem joinI_y2 (L1 L2 : List Lb) (A1 A2 : Option Addr) (c1 c2 : Nat) (ps qs : List S80) (ok fine : Bool) (w : World)
  (h1 : ∀ W, Below w.heap.size w W → Calls Try.prog 49 #[.agg #[.slice A1 L1.length c1]] W fun e w' => ∃ v, e = .returned (.tuple #[v, .bool ok]) ∧ Kd.R k80 80 w' W.heap.size (fun _ => True) v ps ∧ Below W.heap.size W w')
  (h2 : ∀ W, Below w.heap.size w W → Calls Try.prog 49 #[.agg #[.slice A2 L2.length c2]] W fun e w' => ∃ v, e = .returned (.tuple #[v, .bool fine]) ∧ Kd.R k80 80 w' W.heap.size (fun _ => True) v qs ∧ Below W.heap.size W w')
  (hp : ps.length ≤ 60) (hq : qs.length ≤ 60) (hok : ok = true) (hfi : fine = true) (hsum : ps.length + qs.length ≤ 60) (hx0 : ¬ ps.length = 0) (hy0 : qs.length = 0) (hks : ∀ i : Nat, i < (ps ++ qs).length → (rd_T80 (ps ++ qs) (i : Int)).f0.size ≤ 1048576) :
  Calls Try.prog 29 #[.agg #[.slice A1 L1.length c1], .agg #[.slice A2 L2.length c2]] w fun e w' => ∃ v0_ : Value, e = .returned (.tuple #[.agg #[v0_], .bool true]) ∧ Kd.R k71 71 w' w.heap.size (fun _ => True) v0_ (enc (ps.map BuI.kv ++ qs.map BuI.kv).length 0 (ps.map BuI.kv ++ qs.map BuI.kv)) ∧ Below w.heap.size w w' := by
 obtain ⟨wA, hwA⟩ : ∃ wA, wA = w.alloc (.cells #[.slice A1 L1.length c1] 29) := ⟨_, rfl⟩
 obtain ⟨wB, hwB⟩ : ∃ wB, wB = wA.alloc (.cells #[.slice A2 L2.length c2] 29) := ⟨_, rfl⟩
 obtain ⟨wC, hwC⟩ : ∃ wC, wC = wB.alloc (.cells #[.slice none 0 0] 29) := ⟨_, rfl⟩
 have HWA := aM hwA
 have HWB := aM hwB
 have HWC := aM hwC
 have hsA : wA.heap.size = w.heap.size + 1 := by rw [hwA]; exact new_size _ _
 have hsB : wB.heap.size = w.heap.size + 2 := by rw [hwB, new_size, hsA]
 have HSC := aM (show wC.heap.size = w.heap.size + 3 by rw [hwC, new_size, hsB])
 have hBA : Below w.heap.size w wA := by rw [hwA]; exact below_alloc (Below.refl _ _) _
 have hBB : Below w.heap.size w wB := by rw [hwB]; exact below_alloc hBA _
 have HBC := aM (show Below w.heap.size w wC by rw [hwC]; exact below_alloc hBB _)
 have HT1 := aM (show wC.heap[w.heap.size]? = some (.cells #[.slice A1 L1.length c1] 29 (0, 0)) by rw [hwC]; exact xblk_alloc (by rw [hwB]; exact xblk_alloc (by rw [hwA]; exact at_new _ _) _) _)
 have HT2 := aM (show wC.heap[w.heap.size + 1]? = some (.cells #[.slice A2 L2.length c2] 29 (0, 0)) by rw [hwC]; exact xblk_alloc (by rw [hwB, ← hsA]; exact at_new _ _) _)
 have HTR := aM (show wC.heap[w.heap.size + 2]? = some (.cells #[.slice none 0 0] 29 (0, 0)) by rw [hwC, ← hsB]; exact at_new _ _)
 have ct : (((w.alloc (.cells #[.slice A1 L1.length c1] 29)).alloc (.cells #[.slice A2 L2.length c2] 29)).alloc (.cells #[.slice none 0 0] 29)).cell? ⟨w.heap.size, 0, none⟩ = some (.slice A1 L1.length c1) := by rw [← hwA, ← hwB, ← hwC]; exact (blk_cell HT1.out 0).trans rfl
 have HP1 := aM (h1 wC HBC.out)
 have HP2 := aM h2
 have hpl : (ps.length : Int) ≤ 60 := by omega
 have hql : (qs.length : Int) ≤ 60 := by omega
 have HPQ := aM (⟨hp, hq⟩ : ps.length ≤ 60 ∧ qs.length ≤ 60)
 clear h1 h2 hwA hwB hwC hsA hsB hBA hBB hp hq
 subst hok hfi
 obtain ⟨zs, hzs⟩ : ∃ zs, zs = enc (ps.map BuI.kv ++ qs.map BuI.kv).length 0 (ps.map BuI.kv ++ qs.map BuI.kv) := ⟨_, rfl⟩
 rw [← hzs]
 obtain ⟨rs, hrs⟩ : ∃ rs, rs = ps ++ qs := ⟨_, rfl⟩
 have HRS := aM hrs
 rw [← hrs] at hks
 have HZ := aM (show zs = enc rs.length 0 (rs.map BuI.kv) by rw [hzs, hrs, ← List.map_append, List.length_map])
 have HKS := aM hks
 have HRL := aM (show rs.length ≤ 1048576 by have := HPQ.out; rw [hrs, List.length_append]; omega)
 clear hzs hks hrs
 have t1 : decide ((60 : Int) < (ps.length : Int) + (qs.length : Int)) = false := decide_eq_false (by omega)
 have t1' : ¬ (60 : Int) < (ps.length : Int) + (qs.length : Int) := by omega
 have HSUM := aM hsum
 have t2 : decide ((0 : Int) < (ps.length : Int)) = true := decide_eq_true (by omega)
 have t2' :  (0 : Int) < (ps.length : Int) := by omega
 have t2n : decide (0 < ps.length) = true := decide_eq_true (by omega)
 have t2n' :  0 < ps.length := by omega
 have t3 : decide ((0 : Int) < (qs.length : Int)) = false := decide_eq_false (by omega)
 have t3' : ¬ (0 : Int) < (qs.length : Int) := by omega
 have t3n : decide (0 < qs.length) = false := decide_eq_false (by omega)
 have t3n' : ¬ 0 < qs.length := by omega
 go_enter Try.func29, Try.ntmps29
 go_upto_region 2 with (go_at_call 49; rw [← HWA.out, ← HWB.out, ← HWC.out]; go_loud ((with_reducible refine HP1.out.mono ?_); rintro e w2 ⟨v2, rfl, ho2, hb2⟩; have HO2 := aM ho2; have HB2 := aM hb2; clear ho2 hb2))
 clear ct
 have HBw2 := aM (HBC.out.trans (HB2.out.mono (by have := HSC.out; omega)))
 have HT22 := aM ((HB2.out.block (w.heap.size + 1) (by have := HSC.out; omega)).trans HT2.out)
 have ct2 : w2.cell? ⟨w.heap.size + 1, 0, none⟩ = some (.slice A2 L2.length c2) := (blk_cell HT22.out 0).trans rfl
 go_upto_region 3 with (go_at_call 49; go_loud ((with_reducible refine (HP2.out _ HBw2.out).mono ?_); rintro e w3 ⟨v3, rfl, ho3, hb3⟩; have HO3 := aM ho3; have HB3 := aM hb3; clear ho3 hb3))
 clear ct2
 have HBw3 := aM (HBw2.out.trans (HB3.out.mono (by have := HB2.out.size; have := HSC.out; omega)))
 have HTR3 := aM ((HB3.out.block (w.heap.size + 2) (by have := HB2.out.size; have := HSC.out; omega)).trans ((HB2.out.block (w.heap.size + 2) (by have := HSC.out; omega)).trans HTR.out))
 have HO23 := aM (Kd.R_below HO2.out HB3.out)
 obtain ⟨A3, c3, e3⟩ := Kd.R_slice HO23.out
 subst e3
 obtain ⟨A4, c4, e4⟩ := Kd.R_slice HO3.out
 subst e4
 have hw1 : IntKind.i64.wrap ((ps.length : Int) + (qs.length : Int)) = (ps.length : Int) + (qs.length : Int) := by rw [IntKind.wrap_i64]; omega
 clear hx0 hy0 hsum
 have HCC := aM (fun nq : Nat => concat A3 A4 c3 c4 ps qs w3.heap.size ((w3.drewN nq).alloc (.cells #[.slice A3 ps.length c3, .slice A4 qs.length c4] 66)) (at_new (w3.drewN nq) _) (Kd.C_below (Kd.reads1 HO23.out) (below_alloc (pw_below_drewN (Below.refl _ _) nq) _)) (Kd.C_below (Kd.reads1 HO3.out) (below_alloc (pw_below_drewN (Below.refl _ _) nq) _)) (by have := HPQ.out; omega))
 have HBD := aM (fun nq : Nat => (below_alloc (pw_below_drewN (Below.refl w3.heap.size w3) nq) (.cells #[.slice A3 ps.length c3, .slice A4 qs.length c4] 66) : Below w3.heap.size w3 ((w3.drewN nq).alloc (.cells #[.slice A3 ps.length c3, .slice A4 qs.length c4] 66))))
 go_quiet (fail)
 go_wp2_with (first
  | (go_at_call 58; go_loud ((with_reducible refine (HCC.out _).mono ?_); rintro e w5 ⟨v5, rfl, ho5, hb5⟩; rw [← HRS.out] at ho5; obtain ⟨A5, c5, e5⟩ := Kd.R_slice ho5; subst e5; have HO5 := aM ho5; have HB5 := aM ((HBD.out _).trans (hb5.mono (HBD.out _).size)); have HT6 := aM (Tr.treapI rs A5 c5 w5 (Kd.reads1 ho5) (Kd.reads2 ho5) HRL.out HKS.out); clear ho5 hb5))
  | (go_at_call 57; go_loud ((with_reducible refine HT6.out.mono ?_); rintro e w7 ⟨v7, rfl, ho7, hb7⟩; rw [← HZ.out] at ho7; obtain ⟨A7, c7, e7⟩ := Kd.R_slice ho7; subst e7; have HO7 := aM ho7; have HB7 := aM hb7; have HR7 := aM ((hb7.block (w.heap.size + 2) (by have := HB5.out.size; have := HB3.out.size; have := HB2.out.size; have := HSC.out; omega)).trans ((HB5.out.block (w.heap.size + 2) (by have := HB3.out.size; have := HB2.out.size; have := HSC.out; omega)).trans HTR3.out)); have cr : w7.cell? ⟨w.heap.size + 2, 0, none⟩ = some (.slice none 0 0) := (blk_cell HR7.out 0).trans rfl; have fr : w7.frozen? ⟨w.heap.size + 2, 0, none⟩ = false := blk_frozen HR7.out 0; clear ho7 hb7)))
 refine bodyPost_ret (results_ct rfl _ _ (w.heap.size + 2) 29 #[.slice A7 zs.length c7] (0, 0) _ rfl (blk_put HR7.out 0 _ rfl) Try.underlying29 rfl (by kernel_rfl)) rfl ?_
 have hs5 : w.heap.size + 3 ≤ w5.heap.size := by have := HB5.out.size; have := HB3.out.size; have := HB2.out.size; have := HSC.out; omega
 have HBw := (HBw3.out.trans (HB5.out.mono (by have := HB3.out.size; have := HB2.out.size; have := HSC.out; omega))).trans (HB7.out.mono (by omega))
 refine ⟨_, rfl, ?_, HBw.setCell (p := ⟨w.heap.size + 2, 0, none⟩) (by show w.heap.size ≤ w.heap.size + 2; omega) _⟩
 have h1 := Kd.R_far (p := ⟨w.heap.size + 2, 0, none⟩) (Kd.R_bound HO7.out) (fun k hk => by have h1 := hk.2.1; show k ≠ w.heap.size + 2; omega) (.slice A7 zs.length c7)
 exact Kd.R_mono (Kd.R_lower h1 (by omega)) (fun _ _ => trivial)
set_option maxHeartbeats 4000000 in
set_option maxRecDepth 100000 in
theorem joinI_y3 (L1 L2 : List Lb) (A1 A2 : Option Addr) (c1 c2 : Nat) (ps qs : List S80) (ok fine : Bool) (w : World)
  (h1 : ∀ W, Below w.heap.size w W → Calls Try.prog 49 #[.agg #[.slice A1 L1.length c1]] W fun e w' => ∃ v, e = .returned (.tuple #[v, .bool ok]) ∧ Kd.R k80 80 w' W.heap.size (fun _ => True) v ps ∧ Below W.heap.size W w')
  (h2 : ∀ W, Below w.heap.size w W → Calls Try.prog 49 #[.agg #[.slice A2 L2.length c2]] W fun e w' => ∃ v, e = .returned (.tuple #[v, .bool fine]) ∧ Kd.R k80 80 w' W.heap.size (fun _ => True) v qs ∧ Below W.heap.size W w')
  (hp : ps.length ≤ 60) (hq : qs.length ≤ 60) (hok : ok = true) (hfi : fine = true) (hsum : ps.length + qs.length ≤ 60) (hx0 : ¬ ps.length = 0) (hy0 : ¬ qs.length = 0) (hge : Op.bytesLess (rd_T80 ps ((ps.length - 1 : Nat) : Int)).f0.toList (rd_T80 qs ((0 : Nat) : Int)).f0.toList = true) (hks : ∀ i : Nat, i < (ps ++ qs).length → (rd_T80 (ps ++ qs) (i : Int)).f0.size ≤ 1048576) :
  Calls Try.prog 29 #[.agg #[.slice A1 L1.length c1], .agg #[.slice A2 L2.length c2]] w fun e w' => ∃ v0_ : Value, e = .returned (.tuple #[.agg #[v0_], .bool true]) ∧ Kd.R k71 71 w' w.heap.size (fun _ => True) v0_ (enc (ps.map BuI.kv ++ qs.map BuI.kv).length 0 (ps.map BuI.kv ++ qs.map BuI.kv)) ∧ Below w.heap.size w w' := by
 obtain ⟨wA, hwA⟩ : ∃ wA, wA = w.alloc (.cells #[.slice A1 L1.length c1] 29) := ⟨_, rfl⟩
 obtain ⟨wB, hwB⟩ : ∃ wB, wB = wA.alloc (.cells #[.slice A2 L2.length c2] 29) := ⟨_, rfl⟩
 obtain ⟨wC, hwC⟩ : ∃ wC, wC = wB.alloc (.cells #[.slice none 0 0] 29) := ⟨_, rfl⟩
 have HWA := aM hwA
 have HWB := aM hwB
 have HWC := aM hwC
 have hsA : wA.heap.size = w.heap.size + 1 := by rw [hwA]; exact new_size _ _
 have hsB : wB.heap.size = w.heap.size + 2 := by rw [hwB, new_size, hsA]
 have HSC := aM (show wC.heap.size = w.heap.size + 3 by rw [hwC, new_size, hsB])
 have hBA : Below w.heap.size w wA := by rw [hwA]; exact below_alloc (Below.refl _ _) _
 have hBB : Below w.heap.size w wB := by rw [hwB]; exact below_alloc hBA _
 have HBC := aM (show Below w.heap.size w wC by rw [hwC]; exact below_alloc hBB _)
 have HT1 := aM (show wC.heap[w.heap.size]? = some (.cells #[.slice A1 L1.length c1] 29 (0, 0)) by rw [hwC]; exact xblk_alloc (by rw [hwB]; exact xblk_alloc (by rw [hwA]; exact at_new _ _) _) _)
 have HT2 := aM (show wC.heap[w.heap.size + 1]? = some (.cells #[.slice A2 L2.length c2] 29 (0, 0)) by rw [hwC]; exact xblk_alloc (by rw [hwB, ← hsA]; exact at_new _ _) _)
 have HTR := aM (show wC.heap[w.heap.size + 2]? = some (.cells #[.slice none 0 0] 29 (0, 0)) by rw [hwC, ← hsB]; exact at_new _ _)
 have ct : (((w.alloc (.cells #[.slice A1 L1.length c1] 29)).alloc (.cells #[.slice A2 L2.length c2] 29)).alloc (.cells #[.slice none 0 0] 29)).cell? ⟨w.heap.size, 0, none⟩ = some (.slice A1 L1.length c1) := by rw [← hwA, ← hwB, ← hwC]; exact (blk_cell HT1.out 0).trans rfl
 have HP1 := aM (h1 wC HBC.out)
 have HP2 := aM h2
 have hpl : (ps.length : Int) ≤ 60 := by omega
 have hql : (qs.length : Int) ≤ 60 := by omega
 have HPQ := aM (⟨hp, hq⟩ : ps.length ≤ 60 ∧ qs.length ≤ 60)
 clear h1 h2 hwA hwB hwC hsA hsB hBA hBB hp hq
 subst hok hfi
 obtain ⟨zs, hzs⟩ : ∃ zs, zs = enc (ps.map BuI.kv ++ qs.map BuI.kv).length 0 (ps.map BuI.kv ++ qs.map BuI.kv) := ⟨_, rfl⟩
 rw [← hzs]
 obtain ⟨rs, hrs⟩ : ∃ rs, rs = ps ++ qs := ⟨_, rfl⟩
 have HRS := aM hrs
 rw [← hrs] at hks
 have HZ := aM (show zs = enc rs.length 0 (rs.map BuI.kv) by rw [hzs, hrs, ← List.map_append, List.length_map])
 have HKS := aM hks
 have HRL := aM (show rs.length ≤ 1048576 by have := HPQ.out; rw [hrs, List.length_append]; omega)
 clear hzs hks hrs
 have t1 : decide ((60 : Int) < (ps.length : Int) + (qs.length : Int)) = false := decide_eq_false (by omega)
 have t1' : ¬ (60 : Int) < (ps.length : Int) + (qs.length : Int) := by omega
 have HSUM := aM hsum
 have t2 : decide ((0 : Int) < (ps.length : Int)) = true := decide_eq_true (by omega)
 have t2' :  (0 : Int) < (ps.length : Int) := by omega
 have t2n : decide (0 < ps.length) = true := decide_eq_true (by omega)
 have t2n' :  0 < ps.length := by omega
 have t3 : decide ((0 : Int) < (qs.length : Int)) = true := decide_eq_true (by omega)
 have t3' :  (0 : Int) < (qs.length : Int) := by omega
 have t3n : decide (0 < qs.length) = true := decide_eq_true (by omega)
 have t3n' :  0 < qs.length := by omega
 go_enter Try.func29, Try.ntmps29
 go_upto_region 2 with (go_at_call 49; rw [← HWA.out, ← HWB.out, ← HWC.out]; go_loud ((with_reducible refine HP1.out.mono ?_); rintro e w2 ⟨v2, rfl, ho2, hb2⟩; have HO2 := aM ho2; have HB2 := aM hb2; clear ho2 hb2))
 clear ct
 have HBw2 := aM (HBC.out.trans (HB2.out.mono (by have := HSC.out; omega)))
 have HT22 := aM ((HB2.out.block (w.heap.size + 1) (by have := HSC.out; omega)).trans HT2.out)
 have ct2 : w2.cell? ⟨w.heap.size + 1, 0, none⟩ = some (.slice A2 L2.length c2) := (blk_cell HT22.out 0).trans rfl
 go_upto_region 3 with (go_at_call 49; go_loud ((with_reducible refine (HP2.out _ HBw2.out).mono ?_); rintro e w3 ⟨v3, rfl, ho3, hb3⟩; have HO3 := aM ho3; have HB3 := aM hb3; clear ho3 hb3))
 clear ct2
 have HBw3 := aM (HBw2.out.trans (HB3.out.mono (by have := HB2.out.size; have := HSC.out; omega)))
 have HTR3 := aM ((HB3.out.block (w.heap.size + 2) (by have := HB2.out.size; have := HSC.out; omega)).trans ((HB2.out.block (w.heap.size + 2) (by have := HSC.out; omega)).trans HTR.out))
 have HO23 := aM (Kd.R_below HO2.out HB3.out)
 obtain ⟨A3, c3, e3⟩ := Kd.R_slice HO23.out
 subst e3
 obtain ⟨A4, c4, e4⟩ := Kd.R_slice HO3.out
 subst e4
 have hw1 : IntKind.i64.wrap ((ps.length : Int) + (qs.length : Int)) = (ps.length : Int) + (qs.length : Int) := by rw [IntKind.wrap_i64]; omega
 obtain ⟨m, hm⟩ : ∃ m, m = ps.length - 1 := ⟨_, rfl⟩
 rw [← hm] at hge
 have hw2 : IntKind.i64.wrap ((ps.length : Int) - 1) = (m : Int) := by rw [IntKind.wrap_i64]; omega
 have hm0 : (m : Int) < (ps.length : Int) := by omega
 obtain ⟨a1, e1, x0, _⟩ := at_T80 (Kd.reads1 HO23.out) (m : Int) (by omega) (by omega)
 obtain ⟨a2, e2, y0, _⟩ := at_T80 (Kd.reads1 HO3.out) ((0 : Nat) : Int) (by omega) (by omega)
 rw [Int.toNat_natCast] at x0 y0
 rw [Nat.zero_mul] at y0
 have ez : a2.add 0 = a2 := rfl
 rw [ez] at y0
 subst e1 e2
 generalize (rd_T80 ps (m : Int)).f0 = k1 at *
 generalize (rd_T80 qs ((0 : Nat) : Int)).f0 = k2 at *
 clear hm ez
 clear hx0 hy0 hsum
 have HCC := aM (fun nq : Nat => concat (some a1) (some a2) c3 c4 ps qs w3.heap.size ((w3.drewN nq).alloc (.cells #[.slice (some a1) ps.length c3, .slice (some a2) qs.length c4] 66)) (at_new (w3.drewN nq) _) (Kd.C_below (Kd.reads1 HO23.out) (below_alloc (pw_below_drewN (Below.refl _ _) nq) _)) (Kd.C_below (Kd.reads1 HO3.out) (below_alloc (pw_below_drewN (Below.refl _ _) nq) _)) (by have := HPQ.out; omega))
 have HBD := aM (fun nq : Nat => (below_alloc (pw_below_drewN (Below.refl w3.heap.size w3) nq) (.cells #[.slice (some a1) ps.length c3, .slice (some a2) qs.length c4] 66) : Below w3.heap.size w3 ((w3.drewN nq).alloc (.cells #[.slice (some a1) ps.length c3, .slice (some a2) qs.length c4] 66))))
 go_quiet (fail)
 go_wp2_with (first
  | (go_at_call 58; go_loud ((with_reducible refine (HCC.out _).mono ?_); rintro e w5 ⟨v5, rfl, ho5, hb5⟩; rw [← HRS.out] at ho5; obtain ⟨A5, c5, e5⟩ := Kd.R_slice ho5; subst e5; have HO5 := aM ho5; have HB5 := aM ((HBD.out _).trans (hb5.mono (HBD.out _).size)); have HT6 := aM (Tr.treapI rs A5 c5 w5 (Kd.reads1 ho5) (Kd.reads2 ho5) HRL.out HKS.out); clear ho5 hb5))
  | (go_at_call 57; go_loud ((with_reducible refine HT6.out.mono ?_); rintro e w7 ⟨v7, rfl, ho7, hb7⟩; rw [← HZ.out] at ho7; obtain ⟨A7, c7, e7⟩ := Kd.R_slice ho7; subst e7; have HO7 := aM ho7; have HB7 := aM hb7; have HR7 := aM ((hb7.block (w.heap.size + 2) (by have := HB5.out.size; have := HB3.out.size; have := HB2.out.size; have := HSC.out; omega)).trans ((HB5.out.block (w.heap.size + 2) (by have := HB3.out.size; have := HB2.out.size; have := HSC.out; omega)).trans HTR3.out)); have cr : w7.cell? ⟨w.heap.size + 2, 0, none⟩ = some (.slice none 0 0) := (blk_cell HR7.out 0).trans rfl; have fr : w7.frozen? ⟨w.heap.size + 2, 0, none⟩ = false := blk_frozen HR7.out 0; clear ho7 hb7)))
 refine bodyPost_ret (results_ct rfl _ _ (w.heap.size + 2) 29 #[.slice A7 zs.length c7] (0, 0) _ rfl (blk_put HR7.out 0 _ rfl) Try.underlying29 rfl (by kernel_rfl)) rfl ?_
 have hs5 : w.heap.size + 3 ≤ w5.heap.size := by have := HB5.out.size; have := HB3.out.size; have := HB2.out.size; have := HSC.out; omega
 have HBw := (HBw3.out.trans (HB5.out.mono (by have := HB3.out.size; have := HB2.out.size; have := HSC.out; omega))).trans (HB7.out.mono (by omega))
 refine ⟨_, rfl, ?_, HBw.setCell (p := ⟨w.heap.size + 2, 0, none⟩) (by show w.heap.size ≤ w.heap.size + 2; omega) _⟩
 have h1 := Kd.R_far (p := ⟨w.heap.size + 2, 0, none⟩) (Kd.R_bound HO7.out) (fun k hk => by have h1 := hk.2.1; show k ≠ w.heap.size + 2; omega) (.slice A7 zs.length c7)
 exact Kd.R_mono (Kd.R_lower h1 (by omega)) (fun _ _ => trivial)
theorem joinI (L1 L2 : List Lb) (A1 A2 : Option Addr) (c1 c2 : Nat) (ps qs : List S80) (ok fine : Bool) (w : World)
  (h1 : ∀ W, Below w.heap.size w W → Calls Try.prog 49 #[.agg #[.slice A1 L1.length c1]] W fun e w' => ∃ v, e = .returned (.tuple #[v, .bool ok]) ∧ Kd.R k80 80 w' W.heap.size (fun _ => True) v ps ∧ Below W.heap.size W w')
  (h2 : ∀ W, Below w.heap.size w W → Calls Try.prog 49 #[.agg #[.slice A2 L2.length c2]] W fun e w' => ∃ v, e = .returned (.tuple #[v, .bool fine]) ∧ Kd.R k80 80 w' W.heap.size (fun _ => True) v qs ∧ Below W.heap.size W w')
  (hp : ps.length ≤ 60) (hq : qs.length ≤ 60) (hks : ∀ i : Nat, i < (ps ++ qs).length → (rd_T80 (ps ++ qs) (i : Int)).f0.size ≤ 1048576) :
  Calls Try.prog 29 #[.agg #[.slice A1 L1.length c1], .agg #[.slice A2 L2.length c2]] w fun e w' => ∃ v0_ : Value, e = .returned (.tuple #[.agg #[v0_], .bool (jn (ps.map BuI.kv) ok (qs.map BuI.kv) fine).2]) ∧ Kd.R k71 71 w' w.heap.size (fun _ => True) v0_ (jn (ps.map BuI.kv) ok (qs.map BuI.kv) fine).1 ∧ Below w.heap.size w w' := by
 have ejc : jc (ps.map BuI.kv) (qs.map BuI.kv) = (decide (ps.length = 0) || (decide (qs.length = 0) || ls ((ps.map BuI.kv).getD (ps.length - 1) zKV).1 ((qs.map BuI.kv).getD 0 zKV).1)) := by unfold jc; rw [List.length_map, List.length_map]
 unfold jn
 rw [ejc, List.length_map, List.length_map]
 cases ok with
 | false =>
  rw [if_neg (fun h => by cases h.1)]
  exact joinI_n1 L1 L2 A1 A2 c1 c2 ps qs _ fine w h1 h2 hp hq rfl
 | true =>
  cases fine with
  | false =>
   rw [if_neg (fun h => by cases h.2.1)]
   exact joinI_n2 L1 L2 A1 A2 c1 c2 ps qs _ _ w h1 h2 hp hq rfl rfl
  | true =>
   by_cases hs : ps.length + qs.length ≤ 60
   ·
    by_cases hx : ps.length = 0
    ·
     rw [if_pos ⟨rfl, rfl, hs, by rw [decide_eq_true hx]; rfl⟩]
     exact joinI_y1 L1 L2 A1 A2 c1 c2 ps qs _ _ w h1 h2 hp hq rfl rfl hs hx hks
    ·
     by_cases hy : qs.length = 0
     ·
      rw [if_pos ⟨rfl, rfl, hs, by rw [decide_eq_true hy, Bool.true_or, Bool.or_true]⟩]
      exact joinI_y2 L1 L2 A1 A2 c1 c2 ps qs _ _ w h1 h2 hp hq rfl rfl hs hx hy hks
     ·
      have e1 := (BuI.kv_key ps (ps.length - 1) (by omega)).1
      have e2 := (BuI.kv_key qs 0 (by omega)).1
      cases hge : ls ((ps.map BuI.kv).getD (ps.length - 1) zKV).1 ((qs.map BuI.kv).getD 0 zKV).1 with
      | true =>
       rw [if_pos ⟨rfl, rfl, hs, by rw [Bool.or_true, Bool.or_true]⟩]
       rw [e1, e2] at hge
       exact joinI_y3 L1 L2 A1 A2 c1 c2 ps qs _ _ w h1 h2 hp hq rfl rfl hs hx hy hge hks
      | false =>
       rw [if_neg (fun h => by have := h.2.2.2; rw [decide_eq_false hx, decide_eq_false hy] at this; cases this)]
       rw [e1, e2] at hge
       exact joinI_n4 L1 L2 A1 A2 c1 c2 ps qs _ _ w h1 h2 hp hq rfl rfl hs hx hy hge
   ·
    rw [if_neg (fun h => hs h.2.2.1)]
    exact joinI_n3 L1 L2 A1 A2 c1 c2 ps qs _ _ w h1 h2 hp hq rfl rfl hs
set_option maxHeartbeats 4000000 in
set_option maxRecDepth 100000 in
theorem joinS_n1 (L1 L2 : List Lb) (A1 A2 : Option Addr) (c1 c2 : Nat) (ps qs : List S74) (ok fine : Bool) (w : World)
  (h1 : ∀ W, Below w.heap.size w W → Calls Try.prog 47 #[.agg #[.slice A1 L1.length c1]] W fun e w' => ∃ v, e = .returned (.tuple #[v, .bool ok]) ∧ Kd.R k74 74 w' W.heap.size (fun _ => True) v ps ∧ Below W.heap.size W w')
  (h2 : ∀ W, Below w.heap.size w W → Calls Try.prog 47 #[.agg #[.slice A2 L2.length c2]] W fun e w' => ∃ v, e = .returned (.tuple #[v, .bool fine]) ∧ Kd.R k74 74 w' W.heap.size (fun _ => True) v qs ∧ Below W.heap.size W w')
  (hp : ps.length ≤ 60) (hq : qs.length ≤ 60) (hok : ok = false) :
  Calls Try.prog 28 #[.agg #[.slice A1 L1.length c1], .agg #[.slice A2 L2.length c2]] w fun e w' => ∃ v0_ : Value, e = .returned (.tuple #[.agg #[v0_], .bool false]) ∧ Kd.R k71 71 w' w.heap.size (fun _ => True) v0_ [] ∧ Below w.heap.size w w' := by
 obtain ⟨wA, hwA⟩ : ∃ wA, wA = w.alloc (.cells #[.slice A1 L1.length c1] 29) := ⟨_, rfl⟩
 obtain ⟨wB, hwB⟩ : ∃ wB, wB = wA.alloc (.cells #[.slice A2 L2.length c2] 29) := ⟨_, rfl⟩
 obtain ⟨wC, hwC⟩ : ∃ wC, wC = wB.alloc (.cells #[.slice none 0 0] 29) := ⟨_, rfl⟩
 have HWA := aM hwA
 have HWB := aM hwB
 have HWC := aM hwC
 have hsA : wA.heap.size = w.heap.size + 1 := by rw [hwA]; exact new_size _ _
 have hsB : wB.heap.size = w.heap.size + 2 := by rw [hwB, new_size, hsA]
 have HSC := aM (show wC.heap.size = w.heap.size + 3 by rw [hwC, new_size, hsB])
 have hBA : Below w.heap.size w wA := by rw [hwA]; exact below_alloc (Below.refl _ _) _
 have hBB : Below w.heap.size w wB := by rw [hwB]; exact below_alloc hBA _
 have HBC := aM (show Below w.heap.size w wC by rw [hwC]; exact below_alloc hBB _)
 have HT1 := aM (show wC.heap[w.heap.size]? = some (.cells #[.slice A1 L1.length c1] 29 (0, 0)) by rw [hwC]; exact xblk_alloc (by rw [hwB]; exact xblk_alloc (by rw [hwA]; exact at_new _ _) _) _)
 have HT2 := aM (show wC.heap[w.heap.size + 1]? = some (.cells #[.slice A2 L2.length c2] 29 (0, 0)) by rw [hwC]; exact xblk_alloc (by rw [hwB, ← hsA]; exact at_new _ _) _)
 have HTR := aM (show wC.heap[w.heap.size + 2]? = some (.cells #[.slice none 0 0] 29 (0, 0)) by rw [hwC, ← hsB]; exact at_new _ _)
 have ct : (((w.alloc (.cells #[.slice A1 L1.length c1] 29)).alloc (.cells #[.slice A2 L2.length c2] 29)).alloc (.cells #[.slice none 0 0] 29)).cell? ⟨w.heap.size, 0, none⟩ = some (.slice A1 L1.length c1) := by rw [← hwA, ← hwB, ← hwC]; exact (blk_cell HT1.out 0).trans rfl
 have HP1 := aM (h1 wC HBC.out)
 have HP2 := aM h2
 have hpl : (ps.length : Int) ≤ 60 := by omega
 have hql : (qs.length : Int) ≤ 60 := by omega
 have HPQ := aM (⟨hp, hq⟩ : ps.length ≤ 60 ∧ qs.length ≤ 60)
 clear h1 h2 hwA hwB hwC hsA hsB hBA hBB hp hq
 subst hok
 go_enter Try.func28, Try.ntmps28
 go_upto_region 2 with (go_at_call 47; rw [← HWA.out, ← HWB.out, ← HWC.out]; go_loud ((with_reducible refine HP1.out.mono ?_); rintro e w2 ⟨v2, rfl, ho2, hb2⟩; have HO2 := aM ho2; have HB2 := aM hb2; clear ho2 hb2))
 clear ct
 have HBw2 := aM (HBC.out.trans (HB2.out.mono (by have := HSC.out; omega)))
 have HT22 := aM ((HB2.out.block (w.heap.size + 1) (by have := HSC.out; omega)).trans HT2.out)
 have ct2 : w2.cell? ⟨w.heap.size + 1, 0, none⟩ = some (.slice A2 L2.length c2) := (blk_cell HT22.out 0).trans rfl
 go_upto_region 3 with (go_at_call 47; go_loud ((with_reducible refine (HP2.out _ HBw2.out).mono ?_); rintro e w3 ⟨v3, rfl, ho3, hb3⟩; have HO3 := aM ho3; have HB3 := aM hb3; clear ho3 hb3))
 clear ct2
 have HBw3 := aM (HBw2.out.trans (HB3.out.mono (by have := HB2.out.size; have := HSC.out; omega)))
 have HTR3 := aM ((HB3.out.block (w.heap.size + 2) (by have := HB2.out.size; have := HSC.out; omega)).trans ((HB2.out.block (w.heap.size + 2) (by have := HSC.out; omega)).trans HTR.out))
 have HO23 := aM (Kd.R_below HO2.out HB3.out)
 obtain ⟨A3, c3, e3⟩ := Kd.R_slice HO23.out
 subst e3
 obtain ⟨A4, c4, e4⟩ := Kd.R_slice HO3.out
 subst e4
 have hw1 : IntKind.i64.wrap ((ps.length : Int) + (qs.length : Int)) = (ps.length : Int) + (qs.length : Int) := by rw [IntKind.wrap_i64]; omega
 have cr : w3.cell? ⟨w.heap.size + 2, 0, none⟩ = some (.slice none 0 0) := (blk_cell HTR3.out 0).trans rfl
 have fr : w3.frozen? ⟨w.heap.size + 2, 0, none⟩ = false := blk_frozen HTR3.out 0
 go_quiet (fail)
 go_wp2
 refine bodyPost_ret (results_ct rfl _ _ (w.heap.size + 2) 29 #[.slice none 0 0] (0, 0) _ rfl (blk_put (xblk_drewN HTR3.out _) 0 _ rfl) Try.underlying29 rfl (by kernel_rfl)) rfl ?_
 exact ⟨_, rfl, Kd.R_nil _ _ _ _ _, (pw_below_drewN HBw3.out _).setCell (p := ⟨w.heap.size + 2, 0, none⟩) (by show w.heap.size ≤ w.heap.size + 2; omega) _⟩
set_option maxHeartbeats 4000000 in
set_option maxRecDepth 100000 in
theorem joinS_n2 (L1 L2 : List Lb) (A1 A2 : Option Addr) (c1 c2 : Nat) (ps qs : List S74) (ok fine : Bool) (w : World)
  (h1 : ∀ W, Below w.heap.size w W → Calls Try.prog 47 #[.agg #[.slice A1 L1.length c1]] W fun e w' => ∃ v, e = .returned (.tuple #[v, .bool ok]) ∧ Kd.R k74 74 w' W.heap.size (fun _ => True) v ps ∧ Below W.heap.size W w')
  (h2 : ∀ W, Below w.heap.size w W → Calls Try.prog 47 #[.agg #[.slice A2 L2.length c2]] W fun e w' => ∃ v, e = .returned (.tuple #[v, .bool fine]) ∧ Kd.R k74 74 w' W.heap.size (fun _ => True) v qs ∧ Below W.heap.size W w')
  (hp : ps.length ≤ 60) (hq : qs.length ≤ 60) (hok : ok = true) (hfi : fine = false) :
  Calls Try.prog 28 #[.agg #[.slice A1 L1.length c1], .agg #[.slice A2 L2.length c2]] w fun e w' => ∃ v0_ : Value, e = .returned (.tuple #[.agg #[v0_], .bool false]) ∧ Kd.R k71 71 w' w.heap.size (fun _ => True) v0_ [] ∧ Below w.heap.size w w' := by
 obtain ⟨wA, hwA⟩ : ∃ wA, wA = w.alloc (.cells #[.slice A1 L1.length c1] 29) := ⟨_, rfl⟩
 obtain ⟨wB, hwB⟩ : ∃ wB, wB = wA.alloc (.cells #[.slice A2 L2.length c2] 29) := ⟨_, rfl⟩
 obtain ⟨wC, hwC⟩ : ∃ wC, wC = wB.alloc (.cells #[.slice none 0 0] 29) := ⟨_, rfl⟩
 have HWA := aM hwA
 have HWB := aM hwB
 have HWC := aM hwC
 have hsA : wA.heap.size = w.heap.size + 1 := by rw [hwA]; exact new_size _ _
 have hsB : wB.heap.size = w.heap.size + 2 := by rw [hwB, new_size, hsA]
 have HSC := aM (show wC.heap.size = w.heap.size + 3 by rw [hwC, new_size, hsB])
 have hBA : Below w.heap.size w wA := by rw [hwA]; exact below_alloc (Below.refl _ _) _
 have hBB : Below w.heap.size w wB := by rw [hwB]; exact below_alloc hBA _
 have HBC := aM (show Below w.heap.size w wC by rw [hwC]; exact below_alloc hBB _)
 have HT1 := aM (show wC.heap[w.heap.size]? = some (.cells #[.slice A1 L1.length c1] 29 (0, 0)) by rw [hwC]; exact xblk_alloc (by rw [hwB]; exact xblk_alloc (by rw [hwA]; exact at_new _ _) _) _)
 have HT2 := aM (show wC.heap[w.heap.size + 1]? = some (.cells #[.slice A2 L2.length c2] 29 (0, 0)) by rw [hwC]; exact xblk_alloc (by rw [hwB, ← hsA]; exact at_new _ _) _)
 have HTR := aM (show wC.heap[w.heap.size + 2]? = some (.cells #[.slice none 0 0] 29 (0, 0)) by rw [hwC, ← hsB]; exact at_new _ _)
 have ct : (((w.alloc (.cells #[.slice A1 L1.length c1] 29)).alloc (.cells #[.slice A2 L2.length c2] 29)).alloc (.cells #[.slice none 0 0] 29)).cell? ⟨w.heap.size, 0, none⟩ = some (.slice A1 L1.length c1) := by rw [← hwA, ← hwB, ← hwC]; exact (blk_cell HT1.out 0).trans rfl
 have HP1 := aM (h1 wC HBC.out)
 have HP2 := aM h2
 have hpl : (ps.length : Int) ≤ 60 := by omega
 have hql : (qs.length : Int) ≤ 60 := by omega
 have HPQ := aM (⟨hp, hq⟩ : ps.length ≤ 60 ∧ qs.length ≤ 60)
 clear h1 h2 hwA hwB hwC hsA hsB hBA hBB hp hq
 subst hok hfi
 go_enter Try.func28, Try.ntmps28
 go_upto_region 2 with (go_at_call 47; rw [← HWA.out, ← HWB.out, ← HWC.out]; go_loud ((with_reducible refine HP1.out.mono ?_); rintro e w2 ⟨v2, rfl, ho2, hb2⟩; have HO2 := aM ho2; have HB2 := aM hb2; clear ho2 hb2))
 clear ct
 have HBw2 := aM (HBC.out.trans (HB2.out.mono (by have := HSC.out; omega)))
 have HT22 := aM ((HB2.out.block (w.heap.size + 1) (by have := HSC.out; omega)).trans HT2.out)
 have ct2 : w2.cell? ⟨w.heap.size + 1, 0, none⟩ = some (.slice A2 L2.length c2) := (blk_cell HT22.out 0).trans rfl
 go_upto_region 3 with (go_at_call 47; go_loud ((with_reducible refine (HP2.out _ HBw2.out).mono ?_); rintro e w3 ⟨v3, rfl, ho3, hb3⟩; have HO3 := aM ho3; have HB3 := aM hb3; clear ho3 hb3))
 clear ct2
 have HBw3 := aM (HBw2.out.trans (HB3.out.mono (by have := HB2.out.size; have := HSC.out; omega)))
 have HTR3 := aM ((HB3.out.block (w.heap.size + 2) (by have := HB2.out.size; have := HSC.out; omega)).trans ((HB2.out.block (w.heap.size + 2) (by have := HSC.out; omega)).trans HTR.out))
 have HO23 := aM (Kd.R_below HO2.out HB3.out)
 obtain ⟨A3, c3, e3⟩ := Kd.R_slice HO23.out
 subst e3
 obtain ⟨A4, c4, e4⟩ := Kd.R_slice HO3.out
 subst e4
 have hw1 : IntKind.i64.wrap ((ps.length : Int) + (qs.length : Int)) = (ps.length : Int) + (qs.length : Int) := by rw [IntKind.wrap_i64]; omega
 have cr : w3.cell? ⟨w.heap.size + 2, 0, none⟩ = some (.slice none 0 0) := (blk_cell HTR3.out 0).trans rfl
 have fr : w3.frozen? ⟨w.heap.size + 2, 0, none⟩ = false := blk_frozen HTR3.out 0
 go_quiet (fail)
 go_wp2
 refine bodyPost_ret (results_ct rfl _ _ (w.heap.size + 2) 29 #[.slice none 0 0] (0, 0) _ rfl (blk_put (xblk_drewN HTR3.out _) 0 _ rfl) Try.underlying29 rfl (by kernel_rfl)) rfl ?_
 exact ⟨_, rfl, Kd.R_nil _ _ _ _ _, (pw_below_drewN HBw3.out _).setCell (p := ⟨w.heap.size + 2, 0, none⟩) (by show w.heap.size ≤ w.heap.size + 2; omega) _⟩
set_option maxHeartbeats 4000000 in
set_option maxRecDepth 100000 in
theorem joinS_n3 (L1 L2 : List Lb) (A1 A2 : Option Addr) (c1 c2 : Nat) (ps qs : List S74) (ok fine : Bool) (w : World)
  (h1 : ∀ W, Below w.heap.size w W → Calls Try.prog 47 #[.agg #[.slice A1 L1.length c1]] W fun e w' => ∃ v, e = .returned (.tuple #[v, .bool ok]) ∧ Kd.R k74 74 w' W.heap.size (fun _ => True) v ps ∧ Below W.heap.size W w')
  (h2 : ∀ W, Below w.heap.size w W → Calls Try.prog 47 #[.agg #[.slice A2 L2.length c2]] W fun e w' => ∃ v, e = .returned (.tuple #[v, .bool fine]) ∧ Kd.R k74 74 w' W.heap.size (fun _ => True) v qs ∧ Below W.heap.size W w')
  (hp : ps.length ≤ 60) (hq : qs.length ≤ 60) (hok : ok = true) (hfi : fine = true) (hbig : ¬ ps.length + qs.length ≤ 60) :
  Calls Try.prog 28 #[.agg #[.slice A1 L1.length c1], .agg #[.slice A2 L2.length c2]] w fun e w' => ∃ v0_ : Value, e = .returned (.tuple #[.agg #[v0_], .bool false]) ∧ Kd.R k71 71 w' w.heap.size (fun _ => True) v0_ [] ∧ Below w.heap.size w w' := by
 obtain ⟨wA, hwA⟩ : ∃ wA, wA = w.alloc (.cells #[.slice A1 L1.length c1] 29) := ⟨_, rfl⟩
 obtain ⟨wB, hwB⟩ : ∃ wB, wB = wA.alloc (.cells #[.slice A2 L2.length c2] 29) := ⟨_, rfl⟩
 obtain ⟨wC, hwC⟩ : ∃ wC, wC = wB.alloc (.cells #[.slice none 0 0] 29) := ⟨_, rfl⟩
 have HWA := aM hwA
 have HWB := aM hwB
 have HWC := aM hwC
 have hsA : wA.heap.size = w.heap.size + 1 := by rw [hwA]; exact new_size _ _
 have hsB : wB.heap.size = w.heap.size + 2 := by rw [hwB, new_size, hsA]
 have HSC := aM (show wC.heap.size = w.heap.size + 3 by rw [hwC, new_size, hsB])
 have hBA : Below w.heap.size w wA := by rw [hwA]; exact below_alloc (Below.refl _ _) _
 have hBB : Below w.heap.size w wB := by rw [hwB]; exact below_alloc hBA _
 have HBC := aM (show Below w.heap.size w wC by rw [hwC]; exact below_alloc hBB _)
 have HT1 := aM (show wC.heap[w.heap.size]? = some (.cells #[.slice A1 L1.length c1] 29 (0, 0)) by rw [hwC]; exact xblk_alloc (by rw [hwB]; exact xblk_alloc (by rw [hwA]; exact at_new _ _) _) _)
 have HT2 := aM (show wC.heap[w.heap.size + 1]? = some (.cells #[.slice A2 L2.length c2] 29 (0, 0)) by rw [hwC]; exact xblk_alloc (by rw [hwB, ← hsA]; exact at_new _ _) _)
 have HTR := aM (show wC.heap[w.heap.size + 2]? = some (.cells #[.slice none 0 0] 29 (0, 0)) by rw [hwC, ← hsB]; exact at_new _ _)
 have ct : (((w.alloc (.cells #[.slice A1 L1.length c1] 29)).alloc (.cells #[.slice A2 L2.length c2] 29)).alloc (.cells #[.slice none 0 0] 29)).cell? ⟨w.heap.size, 0, none⟩ = some (.slice A1 L1.length c1) := by rw [← hwA, ← hwB, ← hwC]; exact (blk_cell HT1.out 0).trans rfl
 have HP1 := aM (h1 wC HBC.out)
 have HP2 := aM h2
 have hpl : (ps.length : Int) ≤ 60 := by omega
 have hql : (qs.length : Int) ≤ 60 := by omega
 have HPQ := aM (⟨hp, hq⟩ : ps.length ≤ 60 ∧ qs.length ≤ 60)
 clear h1 h2 hwA hwB hwC hsA hsB hBA hBB hp hq
 subst hok hfi
 have t1 : decide ((60 : Int) < (ps.length : Int) + (qs.length : Int)) = true := decide_eq_true (by omega)
 have t1' : (60 : Int) < (ps.length : Int) + (qs.length : Int) := by omega
 clear hbig
 go_enter Try.func28, Try.ntmps28
 go_upto_region 2 with (go_at_call 47; rw [← HWA.out, ← HWB.out, ← HWC.out]; go_loud ((with_reducible refine HP1.out.mono ?_); rintro e w2 ⟨v2, rfl, ho2, hb2⟩; have HO2 := aM ho2; have HB2 := aM hb2; clear ho2 hb2))
 clear ct
 have HBw2 := aM (HBC.out.trans (HB2.out.mono (by have := HSC.out; omega)))
 have HT22 := aM ((HB2.out.block (w.heap.size + 1) (by have := HSC.out; omega)).trans HT2.out)
 have ct2 : w2.cell? ⟨w.heap.size + 1, 0, none⟩ = some (.slice A2 L2.length c2) := (blk_cell HT22.out 0).trans rfl
 go_upto_region 3 with (go_at_call 47; go_loud ((with_reducible refine (HP2.out _ HBw2.out).mono ?_); rintro e w3 ⟨v3, rfl, ho3, hb3⟩; have HO3 := aM ho3; have HB3 := aM hb3; clear ho3 hb3))
 clear ct2
 have HBw3 := aM (HBw2.out.trans (HB3.out.mono (by have := HB2.out.size; have := HSC.out; omega)))
 have HTR3 := aM ((HB3.out.block (w.heap.size + 2) (by have := HB2.out.size; have := HSC.out; omega)).trans ((HB2.out.block (w.heap.size + 2) (by have := HSC.out; omega)).trans HTR.out))
 have HO23 := aM (Kd.R_below HO2.out HB3.out)
 obtain ⟨A3, c3, e3⟩ := Kd.R_slice HO23.out
 subst e3
 obtain ⟨A4, c4, e4⟩ := Kd.R_slice HO3.out
 subst e4
 have hw1 : IntKind.i64.wrap ((ps.length : Int) + (qs.length : Int)) = (ps.length : Int) + (qs.length : Int) := by rw [IntKind.wrap_i64]; omega
 have cr : w3.cell? ⟨w.heap.size + 2, 0, none⟩ = some (.slice none 0 0) := (blk_cell HTR3.out 0).trans rfl
 have fr : w3.frozen? ⟨w.heap.size + 2, 0, none⟩ = false := blk_frozen HTR3.out 0
 go_quiet (fail)
 go_wp2
 refine bodyPost_ret (results_ct rfl _ _ (w.heap.size + 2) 29 #[.slice none 0 0] (0, 0) _ rfl (blk_put (xblk_drewN HTR3.out _) 0 _ rfl) Try.underlying29 rfl (by kernel_rfl)) rfl ?_
 exact ⟨_, rfl, Kd.R_nil _ _ _ _ _, (pw_below_drewN HBw3.out _).setCell (p := ⟨w.heap.size + 2, 0, none⟩) (by show w.heap.size ≤ w.heap.size + 2; omega) _⟩
set_option maxHeartbeats 4000000 in
set_option maxRecDepth 100000 in
theorem joinS_n4 (L1 L2 : List Lb) (A1 A2 : Option Addr) (c1 c2 : Nat) (ps qs : List S74) (ok fine : Bool) (w : World)
  (h1 : ∀ W, Below w.heap.size w W → Calls Try.prog 47 #[.agg #[.slice A1 L1.length c1]] W fun e w' => ∃ v, e = .returned (.tuple #[v, .bool ok]) ∧ Kd.R k74 74 w' W.heap.size (fun _ => True) v ps ∧ Below W.heap.size W w')
  (h2 : ∀ W, Below w.heap.size w W → Calls Try.prog 47 #[.agg #[.slice A2 L2.length c2]] W fun e w' => ∃ v, e = .returned (.tuple #[v, .bool fine]) ∧ Kd.R k74 74 w' W.heap.size (fun _ => True) v qs ∧ Below W.heap.size W w')
  (hp : ps.length ≤ 60) (hq : qs.length ≤ 60) (hok : ok = true) (hfi : fine = true) (hsum : ps.length + qs.length ≤ 60) (hx0 : ¬ ps.length = 0) (hy0 : ¬ qs.length = 0) (hge : Op.bytesLess (rd_T74 ps ((ps.length - 1 : Nat) : Int)).f0.toList (rd_T74 qs ((0 : Nat) : Int)).f0.toList = false) :
  Calls Try.prog 28 #[.agg #[.slice A1 L1.length c1], .agg #[.slice A2 L2.length c2]] w fun e w' => ∃ v0_ : Value, e = .returned (.tuple #[.agg #[v0_], .bool false]) ∧ Kd.R k71 71 w' w.heap.size (fun _ => True) v0_ [] ∧ Below w.heap.size w w' := by
 obtain ⟨wA, hwA⟩ : ∃ wA, wA = w.alloc (.cells #[.slice A1 L1.length c1] 29) := ⟨_, rfl⟩
 obtain ⟨wB, hwB⟩ : ∃ wB, wB = wA.alloc (.cells #[.slice A2 L2.length c2] 29) := ⟨_, rfl⟩
 obtain ⟨wC, hwC⟩ : ∃ wC, wC = wB.alloc (.cells #[.slice none 0 0] 29) := ⟨_, rfl⟩
 have HWA := aM hwA
 have HWB := aM hwB
 have HWC := aM hwC
 have hsA : wA.heap.size = w.heap.size + 1 := by rw [hwA]; exact new_size _ _
 have hsB : wB.heap.size = w.heap.size + 2 := by rw [hwB, new_size, hsA]
 have HSC := aM (show wC.heap.size = w.heap.size + 3 by rw [hwC, new_size, hsB])
 have hBA : Below w.heap.size w wA := by rw [hwA]; exact below_alloc (Below.refl _ _) _
 have hBB : Below w.heap.size w wB := by rw [hwB]; exact below_alloc hBA _
 have HBC := aM (show Below w.heap.size w wC by rw [hwC]; exact below_alloc hBB _)
 have HT1 := aM (show wC.heap[w.heap.size]? = some (.cells #[.slice A1 L1.length c1] 29 (0, 0)) by rw [hwC]; exact xblk_alloc (by rw [hwB]; exact xblk_alloc (by rw [hwA]; exact at_new _ _) _) _)
 have HT2 := aM (show wC.heap[w.heap.size + 1]? = some (.cells #[.slice A2 L2.length c2] 29 (0, 0)) by rw [hwC]; exact xblk_alloc (by rw [hwB, ← hsA]; exact at_new _ _) _)
 have HTR := aM (show wC.heap[w.heap.size + 2]? = some (.cells #[.slice none 0 0] 29 (0, 0)) by rw [hwC, ← hsB]; exact at_new _ _)
 have ct : (((w.alloc (.cells #[.slice A1 L1.length c1] 29)).alloc (.cells #[.slice A2 L2.length c2] 29)).alloc (.cells #[.slice none 0 0] 29)).cell? ⟨w.heap.size, 0, none⟩ = some (.slice A1 L1.length c1) := by rw [← hwA, ← hwB, ← hwC]; exact (blk_cell HT1.out 0).trans rfl
 have HP1 := aM (h1 wC HBC.out)
 have HP2 := aM h2
 have hpl : (ps.length : Int) ≤ 60 := by omega
 have hql : (qs.length : Int) ≤ 60 := by omega
 have HPQ := aM (⟨hp, hq⟩ : ps.length ≤ 60 ∧ qs.length ≤ 60)
 clear h1 h2 hwA hwB hwC hsA hsB hBA hBB hp hq
 subst hok hfi
 have t1 : decide ((60 : Int) < (ps.length : Int) + (qs.length : Int)) = false := decide_eq_false (by omega)
 have t1' : ¬ (60 : Int) < (ps.length : Int) + (qs.length : Int) := by omega
 have HSUM := aM hsum
 have t2 : decide ((0 : Int) < (ps.length : Int)) = true := decide_eq_true (by omega)
 have t2' :  (0 : Int) < (ps.length : Int) := by omega
 have t2n : decide (0 < ps.length) = true := decide_eq_true (by omega)
 have t2n' :  0 < ps.length := by omega
 have t3 : decide ((0 : Int) < (qs.length : Int)) = true := decide_eq_true (by omega)
 have t3' :  (0 : Int) < (qs.length : Int) := by omega
 have t3n : decide (0 < qs.length) = true := decide_eq_true (by omega)
 have t3n' :  0 < qs.length := by omega
 go_enter Try.func28, Try.ntmps28
 go_upto_region 2 with (go_at_call 47; rw [← HWA.out, ← HWB.out, ← HWC.out]; go_loud ((with_reducible refine HP1.out.mono ?_); rintro e w2 ⟨v2, rfl, ho2, hb2⟩; have HO2 := aM ho2; have HB2 := aM hb2; clear ho2 hb2))
 clear ct
 have HBw2 := aM (HBC.out.trans (HB2.out.mono (by have := HSC.out; omega)))
 have HT22 := aM ((HB2.out.block (w.heap.size + 1) (by have := HSC.out; omega)).trans HT2.out)
 have ct2 : w2.cell? ⟨w.heap.size + 1, 0, none⟩ = some (.slice A2 L2.length c2) := (blk_cell HT22.out 0).trans rfl
 go_upto_region 3 with (go_at_call 47; go_loud ((with_reducible refine (HP2.out _ HBw2.out).mono ?_); rintro e w3 ⟨v3, rfl, ho3, hb3⟩; have HO3 := aM ho3; have HB3 := aM hb3; clear ho3 hb3))
 clear ct2
 have HBw3 := aM (HBw2.out.trans (HB3.out.mono (by have := HB2.out.size; have := HSC.out; omega)))
 have HTR3 := aM ((HB3.out.block (w.heap.size + 2) (by have := HB2.out.size; have := HSC.out; omega)).trans ((HB2.out.block (w.heap.size + 2) (by have := HSC.out; omega)).trans HTR.out))
 have HO23 := aM (Kd.R_below HO2.out HB3.out)
 obtain ⟨A3, c3, e3⟩ := Kd.R_slice HO23.out
 subst e3
 obtain ⟨A4, c4, e4⟩ := Kd.R_slice HO3.out
 subst e4
 have hw1 : IntKind.i64.wrap ((ps.length : Int) + (qs.length : Int)) = (ps.length : Int) + (qs.length : Int) := by rw [IntKind.wrap_i64]; omega
 obtain ⟨m, hm⟩ : ∃ m, m = ps.length - 1 := ⟨_, rfl⟩
 rw [← hm] at hge
 have hw2 : IntKind.i64.wrap ((ps.length : Int) - 1) = (m : Int) := by rw [IntKind.wrap_i64]; omega
 have hm0 : (m : Int) < (ps.length : Int) := by omega
 obtain ⟨a1, e1, x0, _⟩ := at_T74 (Kd.reads1 HO23.out) (m : Int) (by omega) (by omega)
 obtain ⟨a2, e2, y0, _⟩ := at_T74 (Kd.reads1 HO3.out) ((0 : Nat) : Int) (by omega) (by omega)
 rw [Int.toNat_natCast] at x0 y0
 rw [Nat.zero_mul] at y0
 have ez : a2.add 0 = a2 := rfl
 rw [ez] at y0
 subst e1 e2
 generalize (rd_T74 ps (m : Int)).f0 = k1 at *
 generalize (rd_T74 qs ((0 : Nat) : Int)).f0 = k2 at *
 clear hm ez
 clear hx0 hy0 hsum
 have cr : w3.cell? ⟨w.heap.size + 2, 0, none⟩ = some (.slice none 0 0) := (blk_cell HTR3.out 0).trans rfl
 have fr : w3.frozen? ⟨w.heap.size + 2, 0, none⟩ = false := blk_frozen HTR3.out 0
 go_quiet (fail)
 go_wp2
 refine bodyPost_ret (results_ct rfl _ _ (w.heap.size + 2) 29 #[.slice none 0 0] (0, 0) _ rfl (blk_put (xblk_drewN HTR3.out _) 0 _ rfl) Try.underlying29 rfl (by kernel_rfl)) rfl ?_
 exact ⟨_, rfl, Kd.R_nil _ _ _ _ _, (pw_below_drewN HBw3.out _).setCell (p := ⟨w.heap.size + 2, 0, none⟩) (by show w.heap.size ≤ w.heap.size + 2; omega) _⟩
set_option maxHeartbeats 4000000 in
set_option maxRecDepth 100000 in
theorem joinS_y1 (L1 L2 : List Lb) (A1 A2 : Option Addr) (c1 c2 : Nat) (ps qs : List S74) (ok fine : Bool) (w : World)
  (h1 : ∀ W, Below w.heap.size w W → Calls Try.prog 47 #[.agg #[.slice A1 L1.length c1]] W fun e w' => ∃ v, e = .returned (.tuple #[v, .bool ok]) ∧ Kd.R k74 74 w' W.heap.size (fun _ => True) v ps ∧ Below W.heap.size W w')
  (h2 : ∀ W, Below w.heap.size w W → Calls Try.prog 47 #[.agg #[.slice A2 L2.length c2]] W fun e w' => ∃ v, e = .returned (.tuple #[v, .bool fine]) ∧ Kd.R k74 74 w' W.heap.size (fun _ => True) v qs ∧ Below W.heap.size W w')
  (hp : ps.length ≤ 60) (hq : qs.length ≤ 60) (hok : ok = true) (hfi : fine = true) (hsum : ps.length + qs.length ≤ 60) (hx0 : ps.length = 0) (hks : ∀ i : Nat, i < (ps ++ qs).length → (rd_T74 (ps ++ qs) (i : Int)).f0.size ≤ 1048576) :
  Calls Try.prog 28 #[.agg #[.slice A1 L1.length c1], .agg #[.slice A2 L2.length c2]] w fun e w' => ∃ v0_ : Value, e = .returned (.tuple #[.agg #[v0_], .bool true]) ∧ Kd.R k71 71 w' w.heap.size (fun _ => True) v0_ (enc (ps.map BuS.kv ++ qs.map BuS.kv).length 0 (ps.map BuS.kv ++ qs.map BuS.kv)) ∧ Below w.heap.size w w' := by
 obtain ⟨wA, hwA⟩ : ∃ wA, wA = w.alloc (.cells #[.slice A1 L1.length c1] 29) := ⟨_, rfl⟩
 obtain ⟨wB, hwB⟩ : ∃ wB, wB = wA.alloc (.cells #[.slice A2 L2.length c2] 29) := ⟨_, rfl⟩
 obtain ⟨wC, hwC⟩ : ∃ wC, wC = wB.alloc (.cells #[.slice none 0 0] 29) := ⟨_, rfl⟩
 have HWA := aM hwA
 have HWB := aM hwB
 have HWC := aM hwC
 have hsA : wA.heap.size = w.heap.size + 1 := by rw [hwA]; exact new_size _ _
 have hsB : wB.heap.size = w.heap.size + 2 := by rw [hwB, new_size, hsA]
 have HSC := aM (show wC.heap.size = w.heap.size + 3 by rw [hwC, new_size, hsB])
 have hBA : Below w.heap.size w wA := by rw [hwA]; exact below_alloc (Below.refl _ _) _
 have hBB : Below w.heap.size w wB := by rw [hwB]; exact below_alloc hBA _
 have HBC := aM (show Below w.heap.size w wC by rw [hwC]; exact below_alloc hBB _)
 have HT1 := aM (show wC.heap[w.heap.size]? = some (.cells #[.slice A1 L1.length c1] 29 (0, 0)) by rw [hwC]; exact xblk_alloc (by rw [hwB]; exact xblk_alloc (by rw [hwA]; exact at_new _ _) _) _)
 have HT2 := aM (show wC.heap[w.heap.size + 1]? = some (.cells #[.slice A2 L2.length c2] 29 (0, 0)) by rw [hwC]; exact xblk_alloc (by rw [hwB, ← hsA]; exact at_new _ _) _)
 have HTR := aM (show wC.heap[w.heap.size + 2]? = some (.cells #[.slice none 0 0] 29 (0, 0)) by rw [hwC, ← hsB]; exact at_new _ _)
 have ct : (((w.alloc (.cells #[.slice A1 L1.length c1] 29)).alloc (.cells #[.slice A2 L2.length c2] 29)).alloc (.cells #[.slice none 0 0] 29)).cell? ⟨w.heap.size, 0, none⟩ = some (.slice A1 L1.length c1) := by rw [← hwA, ← hwB, ← hwC]; exact (blk_cell HT1.out 0).trans rfl
 have HP1 := aM (h1 wC HBC.out)
 have HP2 := aM h2
 have hpl : (ps.length : Int) ≤ 60 := by omega
 have hql : (qs.length : Int) ≤ 60 := by omega
 have HPQ := aM (⟨hp, hq⟩ : ps.length ≤ 60 ∧ qs.length ≤ 60)
 clear h1 h2 hwA hwB hwC hsA hsB hBA hBB hp hq
 subst hok hfi
 obtain ⟨zs, hzs⟩ : ∃ zs, zs = enc (ps.map BuS.kv ++ qs.map BuS.kv).length 0 (ps.map BuS.kv ++ qs.map BuS.kv) := ⟨_, rfl⟩
 rw [← hzs]
 obtain ⟨rs, hrs⟩ : ∃ rs, rs = ps ++ qs := ⟨_, rfl⟩
 have HRS := aM hrs
 rw [← hrs] at hks
 have HZ := aM (show zs = enc rs.length 0 (rs.map BuS.kv) by rw [hzs, hrs, ← List.map_append, List.length_map])
 have HKS := aM hks
 have HRL := aM (show rs.length ≤ 1048576 by have := HPQ.out; rw [hrs, List.length_append]; omega)
 clear hzs hks hrs
 have t1 : decide ((60 : Int) < (ps.length : Int) + (qs.length : Int)) = false := decide_eq_false (by omega)
 have t1' : ¬ (60 : Int) < (ps.length : Int) + (qs.length : Int) := by omega
 have HSUM := aM hsum
 have t2 : decide ((0 : Int) < (ps.length : Int)) = false := decide_eq_false (by omega)
 have t2' : ¬ (0 : Int) < (ps.length : Int) := by omega
 have t2n : decide (0 < ps.length) = false := decide_eq_false (by omega)
 have t2n' : ¬ 0 < ps.length := by omega
 go_enter Try.func28, Try.ntmps28
 go_upto_region 2 with (go_at_call 47; rw [← HWA.out, ← HWB.out, ← HWC.out]; go_loud ((with_reducible refine HP1.out.mono ?_); rintro e w2 ⟨v2, rfl, ho2, hb2⟩; have HO2 := aM ho2; have HB2 := aM hb2; clear ho2 hb2))
 clear ct
 have HBw2 := aM (HBC.out.trans (HB2.out.mono (by have := HSC.out; omega)))
 have HT22 := aM ((HB2.out.block (w.heap.size + 1) (by have := HSC.out; omega)).trans HT2.out)
 have ct2 : w2.cell? ⟨w.heap.size + 1, 0, none⟩ = some (.slice A2 L2.length c2) := (blk_cell HT22.out 0).trans rfl
 go_upto_region 3 with (go_at_call 47; go_loud ((with_reducible refine (HP2.out _ HBw2.out).mono ?_); rintro e w3 ⟨v3, rfl, ho3, hb3⟩; have HO3 := aM ho3; have HB3 := aM hb3; clear ho3 hb3))
 clear ct2
 have HBw3 := aM (HBw2.out.trans (HB3.out.mono (by have := HB2.out.size; have := HSC.out; omega)))
 have HTR3 := aM ((HB3.out.block (w.heap.size + 2) (by have := HB2.out.size; have := HSC.out; omega)).trans ((HB2.out.block (w.heap.size + 2) (by have := HSC.out; omega)).trans HTR.out))
 have HO23 := aM (Kd.R_below HO2.out HB3.out)
 obtain ⟨A3, c3, e3⟩ := Kd.R_slice HO23.out
 subst e3
 obtain ⟨A4, c4, e4⟩ := Kd.R_slice HO3.out
 subst e4
 have hw1 : IntKind.i64.wrap ((ps.length : Int) + (qs.length : Int)) = (ps.length : Int) + (qs.length : Int) := by rw [IntKind.wrap_i64]; omega
 clear hx0 hsum
 go_quiet (fail)
 go_wp2_with (first
  | ((with_reducible refine gate_dst (N := 59) rfl ?_); refine Kd.R_lit k74 _ 74 ?hg (N := 59) ?hd (xs := ([] : List (S74))) (inner := []) (ok := fun _ => True) (okp := fun _ => True) ?hr ?hp (fun _ hk => hk) trivial (Below.refl _ _) (Nat.le_refl _) (by simp) ?_; (case hd => rfl); (case hg => rfl); (case hr => first | (go_simp; done) | (go_simp; rfl)); (case hp => exact (Reps.none _ _)); intro v4 w4 ho4 hb4 hg_ hn_; have HO4 := aM (show Kd.R k74 74 w4 w3.heap.size (fun _ => True) v4 [] from ho4); have HB4 := aM ((pw_below_drewN (Below.refl w3.heap.size w3) _).trans (show Below w3.heap.size _ w4 from hb4)); clear ho4 hb4 hg_ hn_)
  | ((with_reducible refine gate_builtin (b := .append) (xs := #[.tmp 59, .tmp 60]) rfl ?_); at_builtin; go_loud (refine Kd.R_append_rows k74 (Rr := (k74).K w4) (w0 := w3) w3.heap.size rfl (.tmp 59) (.tmp 60) 62 74 (.agg #[(.string ⟨#[]⟩), (.string ⟨#[]⟩)]) 32 rfl Try.underlying62 info74 rfl (by decide) (by decide) v4 [] ps A3 ps.length c3 (fun _ => True) (fun _ => False) rfl rfl HO4.out (Kd.C_below (Kd.reads1 HO23.out) HB4.out) (fun p cs h => by rw [k74_open h]; exact k74_mkM _ _ _ _) (fun _ h => h.elim) (fun _ _ => trivial) HB4.out HB4.out.size (by have := HPQ.out; simp; omega) ?_; intro v5 w5 ho5 hb5 hg5 hat5; have HO5 := aM ho5; have HB5 := aM hb5; clear ho5 hb5 hg5 hat5))
  | ((with_reducible refine gate_builtin (b := .append) (xs := #[.tmp 61, .tmp 62]) rfl ?_); at_builtin; go_loud (refine Kd.R_append_rows k74 (Rr := (k74).K w5) (w0 := w3) w3.heap.size rfl (.tmp 61) (.tmp 62) 62 74 (.agg #[(.string ⟨#[]⟩), (.string ⟨#[]⟩)]) 32 rfl Try.underlying62 info74 rfl (by decide) (by decide) v5 ([] ++ ps) qs A4 qs.length c4 (fun _ => True) (fun _ => False) rfl rfl HO5.out (Kd.C_below (Kd.reads1 HO3.out) HB5.out) (fun p cs h => by rw [k74_open h]; exact k74_mkM _ _ _ _) (fun _ h => h.elim) (fun _ _ => trivial) HB5.out HB5.out.size (by have := HPQ.out; simp; omega) ?_; intro v6 w6 ho6 hb6 hg6 hat6; rw [List.nil_append, ← HRS.out] at ho6; obtain ⟨A6, c6, e6⟩ := Kd.R_slice ho6; subst e6; have HB6 := aM hb6; have HT6 := aM (Tr.treapS rs A6 c6 w6 (Kd.reads1 ho6) (Kd.reads2 ho6) HRL.out HKS.out); clear ho6 hb6 hg6 hat6))
  | (go_at_call 56; go_loud ((with_reducible refine HT6.out.mono ?_); rintro e w7 ⟨v7, rfl, ho7, hb7⟩; rw [← HZ.out] at ho7; obtain ⟨A7, c7, e7⟩ := Kd.R_slice ho7; subst e7; have HO7 := aM ho7; have HB7 := aM hb7; have HR7 := aM ((hb7.block (w.heap.size + 2) (by have := HB6.out.size; have := HB3.out.size; have := HB2.out.size; have := HSC.out; omega)).trans ((HB6.out.block (w.heap.size + 2) (by have := HB3.out.size; have := HB2.out.size; have := HSC.out; omega)).trans HTR3.out)); have cr : w7.cell? ⟨w.heap.size + 2, 0, none⟩ = some (.slice none 0 0) := (blk_cell HR7.out 0).trans rfl; have fr : w7.frozen? ⟨w.heap.size + 2, 0, none⟩ = false := blk_frozen HR7.out 0; clear ho7 hb7)))
 refine bodyPost_ret (results_ct rfl _ _ (w.heap.size + 2) 29 #[.slice A7 zs.length c7] (0, 0) _ rfl (blk_put HR7.out 0 _ rfl) Try.underlying29 rfl (by kernel_rfl)) rfl ?_
 have hs5 : w.heap.size + 3 ≤ w6.heap.size := by have := HB6.out.size; have := HB3.out.size; have := HB2.out.size; have := HSC.out; omega
 have HBw := (HBw3.out.trans (HB6.out.mono (by have := HB3.out.size; have := HB2.out.size; have := HSC.out; omega))).trans (HB7.out.mono (by omega))
 refine ⟨_, rfl, ?_, HBw.setCell (p := ⟨w.heap.size + 2, 0, none⟩) (by show w.heap.size ≤ w.heap.size + 2; omega) _⟩
 have h1 := Kd.R_far (p := ⟨w.heap.size + 2, 0, none⟩) (Kd.R_bound HO7.out) (fun k hk => by have h1 := hk.2.1; show k ≠ w.heap.size + 2; omega) (.slice A7 zs.length c7)
 exact Kd.R_mono (Kd.R_lower h1 (by omega)) (fun _ _ => trivial)
set_option maxHeartbeats 4000000 in
set_option maxRecDepth 100000 in
theorem joinS_y2 (L1 L2 : List Lb) (A1 A2 : Option Addr) (c1 c2 : Nat) (ps qs : List S74) (ok fine : Bool) (w : World)
  (h1 : ∀ W, Below w.heap.size w W → Calls Try.prog 47 #[.agg #[.slice A1 L1.length c1]] W fun e w' => ∃ v, e = .returned (.tuple #[v, .bool ok]) ∧ Kd.R k74 74 w' W.heap.size (fun _ => True) v ps ∧ Below W.heap.size W w')
  (h2 : ∀ W, Below w.heap.size w W → Calls Try.prog 47 #[.agg #[.slice A2 L2.length c2]] W fun e w' => ∃ v, e = .returned (.tuple #[v, .bool fine]) ∧ Kd.R k74 74 w' W.heap.size (fun _ => True) v qs ∧ Below W.heap.size W w')
  (hp : ps.length ≤ 60) (hq : qs.length ≤ 60) (hok : ok = true) (hfi : fine = true) (hsum : ps.length + qs.length ≤ 60) (hx0 : ¬ ps.length = 0) (hy0 : qs.length = 0) (hks : ∀ i : Nat, i < (ps ++ qs).length → (rd_T74 (ps ++ qs) (i : Int)).f0.size ≤ 1048576) :
  Calls Try.prog 28 #[.agg #[.slice A1 L1.length c1], .agg #[.slice A2 L2.length c2]] w fun e w' => ∃ v0_ : Value, e = .returned (.tuple #[.agg #[v0_], .bool true]) ∧ Kd.R k71 71 w' w.heap.size (fun _ => True) v0_ (enc (ps.map BuS.kv ++ qs.map BuS.kv).length 0 (ps.map BuS.kv ++ qs.map BuS.kv)) ∧ Below w.heap.size w w' := by
 obtain ⟨wA, hwA⟩ : ∃ wA, wA = w.alloc (.cells #[.slice A1 L1.length c1] 29) := ⟨_, rfl⟩
 obtain ⟨wB, hwB⟩ : ∃ wB, wB = wA.alloc (.cells #[.slice A2 L2.length c2] 29) := ⟨_, rfl⟩
 obtain ⟨wC, hwC⟩ : ∃ wC, wC = wB.alloc (.cells #[.slice none 0 0] 29) := ⟨_, rfl⟩
 have HWA := aM hwA
 have HWB := aM hwB
 have HWC := aM hwC
 have hsA : wA.heap.size = w.heap.size + 1 := by rw [hwA]; exact new_size _ _
 have hsB : wB.heap.size = w.heap.size + 2 := by rw [hwB, new_size, hsA]
 have HSC := aM (show wC.heap.size = w.heap.size + 3 by rw [hwC, new_size, hsB])
 have hBA : Below w.heap.size w wA := by rw [hwA]; exact below_alloc (Below.refl _ _) _
 have hBB : Below w.heap.size w wB := by rw [hwB]; exact below_alloc hBA _
 have HBC := aM (show Below w.heap.size w wC by rw [hwC]; exact below_alloc hBB _)
 have HT1 := aM (show wC.heap[w.heap.size]? = some (.cells #[.slice A1 L1.length c1] 29 (0, 0)) by rw [hwC]; exact xblk_alloc (by rw [hwB]; exact xblk_alloc (by rw [hwA]; exact at_new _ _) _) _)
 have HT2 := aM (show wC.heap[w.heap.size + 1]? = some (.cells #[.slice A2 L2.length c2] 29 (0, 0)) by rw [hwC]; exact xblk_alloc (by rw [hwB, ← hsA]; exact at_new _ _) _)
 have HTR := aM (show wC.heap[w.heap.size + 2]? = some (.cells #[.slice none 0 0] 29 (0, 0)) by rw [hwC, ← hsB]; exact at_new _ _)
 have ct : (((w.alloc (.cells #[.slice A1 L1.length c1] 29)).alloc (.cells #[.slice A2 L2.length c2] 29)).alloc (.cells #[.slice none 0 0] 29)).cell? ⟨w.heap.size, 0, none⟩ = some (.slice A1 L1.length c1) := by rw [← hwA, ← hwB, ← hwC]; exact (blk_cell HT1.out 0).trans rfl
 have HP1 := aM (h1 wC HBC.out)
 have HP2 := aM h2
 have hpl : (ps.length : Int) ≤ 60 := by omega
 have hql : (qs.length : Int) ≤ 60 := by omega
 have HPQ := aM (⟨hp, hq⟩ : ps.length ≤ 60 ∧ qs.length ≤ 60)
 clear h1 h2 hwA hwB hwC hsA hsB hBA hBB hp hq
 subst hok hfi
 obtain ⟨zs, hzs⟩ : ∃ zs, zs = enc (ps.map BuS.kv ++ qs.map BuS.kv).length 0 (ps.map BuS.kv ++ qs.map BuS.kv) := ⟨_, rfl⟩
 rw [← hzs]
 obtain ⟨rs, hrs⟩ : ∃ rs, rs = ps ++ qs := ⟨_, rfl⟩
 have HRS := aM hrs
 rw [← hrs] at hks
 have HZ := aM (show zs = enc rs.length 0 (rs.map BuS.kv) by rw [hzs, hrs, ← List.map_append, List.length_map])
 have HKS := aM hks
 have HRL := aM (show rs.length ≤ 1048576 by have := HPQ.out; rw [hrs, List.length_append]; omega)
 clear hzs hks hrs
 have t1 : decide ((60 : Int) < (ps.length : Int) + (qs.length : Int)) = false := decide_eq_false (by omega)
 have t1' : ¬ (60 : Int) < (ps.length : Int) + (qs.length : Int) := by omega
 have HSUM := aM hsum
 have t2 : decide ((0 : Int) < (ps.length : Int)) = true := decide_eq_true (by omega)
 have t2' :  (0 : Int) < (ps.length : Int) := by omega
 have t2n : decide (0 < ps.length) = true := decide_eq_true (by omega)
 have t2n' :  0 < ps.length := by omega
 have t3 : decide ((0 : Int) < (qs.length : Int)) = false := decide_eq_false (by omega)
 have t3' : ¬ (0 : Int) < (qs.length : Int) := by omega
 have t3n : decide (0 < qs.length) = false := decide_eq_false (by omega)
 have t3n' : ¬ 0 < qs.length := by omega
 go_enter Try.func28, Try.ntmps28
 go_upto_region 2 with (go_at_call 47; rw [← HWA.out, ← HWB.out, ← HWC.out]; go_loud ((with_reducible refine HP1.out.mono ?_); rintro e w2 ⟨v2, rfl, ho2, hb2⟩; have HO2 := aM ho2; have HB2 := aM hb2; clear ho2 hb2))
 clear ct
 have HBw2 := aM (HBC.out.trans (HB2.out.mono (by have := HSC.out; omega)))
 have HT22 := aM ((HB2.out.block (w.heap.size + 1) (by have := HSC.out; omega)).trans HT2.out)
 have ct2 : w2.cell? ⟨w.heap.size + 1, 0, none⟩ = some (.slice A2 L2.length c2) := (blk_cell HT22.out 0).trans rfl
 go_upto_region 3 with (go_at_call 47; go_loud ((with_reducible refine (HP2.out _ HBw2.out).mono ?_); rintro e w3 ⟨v3, rfl, ho3, hb3⟩; have HO3 := aM ho3; have HB3 := aM hb3; clear ho3 hb3))
 clear ct2
 have HBw3 := aM (HBw2.out.trans (HB3.out.mono (by have := HB2.out.size; have := HSC.out; omega)))
 have HTR3 := aM ((HB3.out.block (w.heap.size + 2) (by have := HB2.out.size; have := HSC.out; omega)).trans ((HB2.out.block (w.heap.size + 2) (by have := HSC.out; omega)).trans HTR.out))
 have HO23 := aM (Kd.R_below HO2.out HB3.out)
 obtain ⟨A3, c3, e3⟩ := Kd.R_slice HO23.out
 subst e3
 obtain ⟨A4, c4, e4⟩ := Kd.R_slice HO3.out
 subst e4
 have hw1 : IntKind.i64.wrap ((ps.length : Int) + (qs.length : Int)) = (ps.length : Int) + (qs.length : Int) := by rw [IntKind.wrap_i64]; omega
 clear hx0 hy0 hsum
 go_quiet (fail)
 go_wp2_with (first
  | ((with_reducible refine gate_dst (N := 59) rfl ?_); refine Kd.R_lit k74 _ 74 ?hg (N := 59) ?hd (xs := ([] : List (S74))) (inner := []) (ok := fun _ => True) (okp := fun _ => True) ?hr ?hp (fun _ hk => hk) trivial (Below.refl _ _) (Nat.le_refl _) (by simp) ?_; (case hd => rfl); (case hg => rfl); (case hr => first | (go_simp; done) | (go_simp; rfl)); (case hp => exact (Reps.none _ _)); intro v4 w4 ho4 hb4 hg_ hn_; have HO4 := aM (show Kd.R k74 74 w4 w3.heap.size (fun _ => True) v4 [] from ho4); have HB4 := aM ((pw_below_drewN (Below.refl w3.heap.size w3) _).trans (show Below w3.heap.size _ w4 from hb4)); clear ho4 hb4 hg_ hn_)
  | ((with_reducible refine gate_builtin (b := .append) (xs := #[.tmp 59, .tmp 60]) rfl ?_); at_builtin; go_loud (refine Kd.R_append_rows k74 (Rr := (k74).K w4) (w0 := w3) w3.heap.size rfl (.tmp 59) (.tmp 60) 62 74 (.agg #[(.string ⟨#[]⟩), (.string ⟨#[]⟩)]) 32 rfl Try.underlying62 info74 rfl (by decide) (by decide) v4 [] ps A3 ps.length c3 (fun _ => True) (fun _ => False) rfl rfl HO4.out (Kd.C_below (Kd.reads1 HO23.out) HB4.out) (fun p cs h => by rw [k74_open h]; exact k74_mkM _ _ _ _) (fun _ h => h.elim) (fun _ _ => trivial) HB4.out HB4.out.size (by have := HPQ.out; simp; omega) ?_; intro v5 w5 ho5 hb5 hg5 hat5; have HO5 := aM ho5; have HB5 := aM hb5; clear ho5 hb5 hg5 hat5))
  | ((with_reducible refine gate_builtin (b := .append) (xs := #[.tmp 61, .tmp 62]) rfl ?_); at_builtin; go_loud (refine Kd.R_append_rows k74 (Rr := (k74).K w5) (w0 := w3) w3.heap.size rfl (.tmp 61) (.tmp 62) 62 74 (.agg #[(.string ⟨#[]⟩), (.string ⟨#[]⟩)]) 32 rfl Try.underlying62 info74 rfl (by decide) (by decide) v5 ([] ++ ps) qs A4 qs.length c4 (fun _ => True) (fun _ => False) rfl rfl HO5.out (Kd.C_below (Kd.reads1 HO3.out) HB5.out) (fun p cs h => by rw [k74_open h]; exact k74_mkM _ _ _ _) (fun _ h => h.elim) (fun _ _ => trivial) HB5.out HB5.out.size (by have := HPQ.out; simp; omega) ?_; intro v6 w6 ho6 hb6 hg6 hat6; rw [List.nil_append, ← HRS.out] at ho6; obtain ⟨A6, c6, e6⟩ := Kd.R_slice ho6; subst e6; have HB6 := aM hb6; have HT6 := aM (Tr.treapS rs A6 c6 w6 (Kd.reads1 ho6) (Kd.reads2 ho6) HRL.out HKS.out); clear ho6 hb6 hg6 hat6))
  | (go_at_call 56; go_loud ((with_reducible refine HT6.out.mono ?_); rintro e w7 ⟨v7, rfl, ho7, hb7⟩; rw [← HZ.out] at ho7; obtain ⟨A7, c7, e7⟩ := Kd.R_slice ho7; subst e7; have HO7 := aM ho7; have HB7 := aM hb7; have HR7 := aM ((hb7.block (w.heap.size + 2) (by have := HB6.out.size; have := HB3.out.size; have := HB2.out.size; have := HSC.out; omega)).trans ((HB6.out.block (w.heap.size + 2) (by have := HB3.out.size; have := HB2.out.size; have := HSC.out; omega)).trans HTR3.out)); have cr : w7.cell? ⟨w.heap.size + 2, 0, none⟩ = some (.slice none 0 0) := (blk_cell HR7.out 0).trans rfl; have fr : w7.frozen? ⟨w.heap.size + 2, 0, none⟩ = false := blk_frozen HR7.out 0; clear ho7 hb7)))
 refine bodyPost_ret (results_ct rfl _ _ (w.heap.size + 2) 29 #[.slice A7 zs.length c7] (0, 0) _ rfl (blk_put HR7.out 0 _ rfl) Try.underlying29 rfl (by kernel_rfl)) rfl ?_
 have hs5 : w.heap.size + 3 ≤ w6.heap.size := by have := HB6.out.size; have := HB3.out.size; have := HB2.out.size; have := HSC.out; omega
 have HBw := (HBw3.out.trans (HB6.out.mono (by have := HB3.out.size; have := HB2.out.size; have := HSC.out; omega))).trans (HB7.out.mono (by omega))
 refine ⟨_, rfl, ?_, HBw.setCell (p := ⟨w.heap.size + 2, 0, none⟩) (by show w.heap.size ≤ w.heap.size + 2; omega) _⟩
 have h1 := Kd.R_far (p := ⟨w.heap.size + 2, 0, none⟩) (Kd.R_bound HO7.out) (fun k hk => by have h1 := hk.2.1; show k ≠ w.heap.size + 2; omega) (.slice A7 zs.length c7)
 exact Kd.R_mono (Kd.R_lower h1 (by omega)) (fun _ _ => trivial)
set_option maxHeartbeats 4000000 in
set_option maxRecDepth 100000 in
theorem joinS_y3 (L1 L2 : List Lb) (A1 A2 : Option Addr) (c1 c2 : Nat) (ps qs : List S74) (ok fine : Bool) (w : World)
  (h1 : ∀ W, Below w.heap.size w W → Calls Try.prog 47 #[.agg #[.slice A1 L1.length c1]] W fun e w' => ∃ v, e = .returned (.tuple #[v, .bool ok]) ∧ Kd.R k74 74 w' W.heap.size (fun _ => True) v ps ∧ Below W.heap.size W w')
  (h2 : ∀ W, Below w.heap.size w W → Calls Try.prog 47 #[.agg #[.slice A2 L2.length c2]] W fun e w' => ∃ v, e = .returned (.tuple #[v, .bool fine]) ∧ Kd.R k74 74 w' W.heap.size (fun _ => True) v qs ∧ Below W.heap.size W w')
  (hp : ps.length ≤ 60) (hq : qs.length ≤ 60) (hok : ok = true) (hfi : fine = true) (hsum : ps.length + qs.length ≤ 60) (hx0 : ¬ ps.length = 0) (hy0 : ¬ qs.length = 0) (hge : Op.bytesLess (rd_T74 ps ((ps.length - 1 : Nat) : Int)).f0.toList (rd_T74 qs ((0 : Nat) : Int)).f0.toList = true) (hks : ∀ i : Nat, i < (ps ++ qs).length → (rd_T74 (ps ++ qs) (i : Int)).f0.size ≤ 1048576) :
  Calls Try.prog 28 #[.agg #[.slice A1 L1.length c1], .agg #[.slice A2 L2.length c2]] w fun e w' => ∃ v0_ : Value, e = .returned (.tuple #[.agg #[v0_], .bool true]) ∧ Kd.R k71 71 w' w.heap.size (fun _ => True) v0_ (enc (ps.map BuS.kv ++ qs.map BuS.kv).length 0 (ps.map BuS.kv ++ qs.map BuS.kv)) ∧ Below w.heap.size w w' := by
 obtain ⟨wA, hwA⟩ : ∃ wA, wA = w.alloc (.cells #[.slice A1 L1.length c1] 29) := ⟨_, rfl⟩
 obtain ⟨wB, hwB⟩ : ∃ wB, wB = wA.alloc (.cells #[.slice A2 L2.length c2] 29) := ⟨_, rfl⟩
 obtain ⟨wC, hwC⟩ : ∃ wC, wC = wB.alloc (.cells #[.slice none 0 0] 29) := ⟨_, rfl⟩
 have HWA := aM hwA
 have HWB := aM hwB
 have HWC := aM hwC
 have hsA : wA.heap.size = w.heap.size + 1 := by rw [hwA]; exact new_size _ _
 have hsB : wB.heap.size = w.heap.size + 2 := by rw [hwB, new_size, hsA]
 have HSC := aM (show wC.heap.size = w.heap.size + 3 by rw [hwC, new_size, hsB])
 have hBA : Below w.heap.size w wA := by rw [hwA]; exact below_alloc (Below.refl _ _) _
 have hBB : Below w.heap.size w wB := by rw [hwB]; exact below_alloc hBA _
 have HBC := aM (show Below w.heap.size w wC by rw [hwC]; exact below_alloc hBB _)
 have HT1 := aM (show wC.heap[w.heap.size]? = some (.cells #[.slice A1 L1.length c1] 29 (0, 0)) by rw [hwC]; exact xblk_alloc (by rw [hwB]; exact xblk_alloc (by rw [hwA]; exact at_new _ _) _) _)
 have HT2 := aM (show wC.heap[w.heap.size + 1]? = some (.cells #[.slice A2 L2.length c2] 29 (0, 0)) by rw [hwC]; exact xblk_alloc (by rw [hwB, ← hsA]; exact at_new _ _) _)
 have HTR := aM (show wC.heap[w.heap.size + 2]? = some (.cells #[.slice none 0 0] 29 (0, 0)) by rw [hwC, ← hsB]; exact at_new _ _)
 have ct : (((w.alloc (.cells #[.slice A1 L1.length c1] 29)).alloc (.cells #[.slice A2 L2.length c2] 29)).alloc (.cells #[.slice none 0 0] 29)).cell? ⟨w.heap.size, 0, none⟩ = some (.slice A1 L1.length c1) := by rw [← hwA, ← hwB, ← hwC]; exact (blk_cell HT1.out 0).trans rfl
 have HP1 := aM (h1 wC HBC.out)
 have HP2 := aM h2
 have hpl : (ps.length : Int) ≤ 60 := by omega
 have hql : (qs.length : Int) ≤ 60 := by omega
 have HPQ := aM (⟨hp, hq⟩ : ps.length ≤ 60 ∧ qs.length ≤ 60)
 clear h1 h2 hwA hwB hwC hsA hsB hBA hBB hp hq
 subst hok hfi
 obtain ⟨zs, hzs⟩ : ∃ zs, zs = enc (ps.map BuS.kv ++ qs.map BuS.kv).length 0 (ps.map BuS.kv ++ qs.map BuS.kv) := ⟨_, rfl⟩
 rw [← hzs]
 obtain ⟨rs, hrs⟩ : ∃ rs, rs = ps ++ qs := ⟨_, rfl⟩
 have HRS := aM hrs
 rw [← hrs] at hks
 have HZ := aM (show zs = enc rs.length 0 (rs.map BuS.kv) by rw [hzs, hrs, ← List.map_append, List.length_map])
 have HKS := aM hks
 have HRL := aM (show rs.length ≤ 1048576 by have := HPQ.out; rw [hrs, List.length_append]; omega)
 clear hzs hks hrs
 have t1 : decide ((60 : Int) < (ps.length : Int) + (qs.length : Int)) = false := decide_eq_false (by omega)
 have t1' : ¬ (60 : Int) < (ps.length : Int) + (qs.length : Int) := by omega
 have HSUM := aM hsum
 have t2 : decide ((0 : Int) < (ps.length : Int)) = true := decide_eq_true (by omega)
 have t2' :  (0 : Int) < (ps.length : Int) := by omega
 have t2n : decide (0 < ps.length) = true := decide_eq_true (by omega)
 have t2n' :  0 < ps.length := by omega
 have t3 : decide ((0 : Int) < (qs.length : Int)) = true := decide_eq_true (by omega)
 have t3' :  (0 : Int) < (qs.length : Int) := by omega
 have t3n : decide (0 < qs.length) = true := decide_eq_true (by omega)
 have t3n' :  0 < qs.length := by omega
 go_enter Try.func28, Try.ntmps28
 go_upto_region 2 with (go_at_call 47; rw [← HWA.out, ← HWB.out, ← HWC.out]; go_loud ((with_reducible refine HP1.out.mono ?_); rintro e w2 ⟨v2, rfl, ho2, hb2⟩; have HO2 := aM ho2; have HB2 := aM hb2; clear ho2 hb2))
 clear ct
 have HBw2 := aM (HBC.out.trans (HB2.out.mono (by have := HSC.out; omega)))
 have HT22 := aM ((HB2.out.block (w.heap.size + 1) (by have := HSC.out; omega)).trans HT2.out)
 have ct2 : w2.cell? ⟨w.heap.size + 1, 0, none⟩ = some (.slice A2 L2.length c2) := (blk_cell HT22.out 0).trans rfl
 go_upto_region 3 with (go_at_call 47; go_loud ((with_reducible refine (HP2.out _ HBw2.out).mono ?_); rintro e w3 ⟨v3, rfl, ho3, hb3⟩; have HO3 := aM ho3; have HB3 := aM hb3; clear ho3 hb3))
 clear ct2
 have HBw3 := aM (HBw2.out.trans (HB3.out.mono (by have := HB2.out.size; have := HSC.out; omega)))
 have HTR3 := aM ((HB3.out.block (w.heap.size + 2) (by have := HB2.out.size; have := HSC.out; omega)).trans ((HB2.out.block (w.heap.size + 2) (by have := HSC.out; omega)).trans HTR.out))
 have HO23 := aM (Kd.R_below HO2.out HB3.out)
 obtain ⟨A3, c3, e3⟩ := Kd.R_slice HO23.out
 subst e3
 obtain ⟨A4, c4, e4⟩ := Kd.R_slice HO3.out
 subst e4
 have hw1 : IntKind.i64.wrap ((ps.length : Int) + (qs.length : Int)) = (ps.length : Int) + (qs.length : Int) := by rw [IntKind.wrap_i64]; omega
 obtain ⟨m, hm⟩ : ∃ m, m = ps.length - 1 := ⟨_, rfl⟩
 rw [← hm] at hge
 have hw2 : IntKind.i64.wrap ((ps.length : Int) - 1) = (m : Int) := by rw [IntKind.wrap_i64]; omega
 have hm0 : (m : Int) < (ps.length : Int) := by omega
 obtain ⟨a1, e1, x0, _⟩ := at_T74 (Kd.reads1 HO23.out) (m : Int) (by omega) (by omega)
 obtain ⟨a2, e2, y0, _⟩ := at_T74 (Kd.reads1 HO3.out) ((0 : Nat) : Int) (by omega) (by omega)
 rw [Int.toNat_natCast] at x0 y0
 rw [Nat.zero_mul] at y0
 have ez : a2.add 0 = a2 := rfl
 rw [ez] at y0
 subst e1 e2
 generalize (rd_T74 ps (m : Int)).f0 = k1 at *
 generalize (rd_T74 qs ((0 : Nat) : Int)).f0 = k2 at *
 clear hm ez
 clear hx0 hy0 hsum
 go_quiet (fail)
 go_wp2_with (first
  | ((with_reducible refine gate_dst (N := 59) rfl ?_); refine Kd.R_lit k74 _ 74 ?hg (N := 59) ?hd (xs := ([] : List (S74))) (inner := []) (ok := fun _ => True) (okp := fun _ => True) ?hr ?hp (fun _ hk => hk) trivial (Below.refl _ _) (Nat.le_refl _) (by simp) ?_; (case hd => rfl); (case hg => rfl); (case hr => first | (go_simp; done) | (go_simp; rfl)); (case hp => exact (Reps.none _ _)); intro v4 w4 ho4 hb4 hg_ hn_; have HO4 := aM (show Kd.R k74 74 w4 w3.heap.size (fun _ => True) v4 [] from ho4); have HB4 := aM ((pw_below_drewN (Below.refl w3.heap.size w3) _).trans (show Below w3.heap.size _ w4 from hb4)); clear ho4 hb4 hg_ hn_)
  | ((with_reducible refine gate_builtin (b := .append) (xs := #[.tmp 59, .tmp 60]) rfl ?_); at_builtin; go_loud (refine Kd.R_append_rows k74 (Rr := (k74).K w4) (w0 := w3) w3.heap.size rfl (.tmp 59) (.tmp 60) 62 74 (.agg #[(.string ⟨#[]⟩), (.string ⟨#[]⟩)]) 32 rfl Try.underlying62 info74 rfl (by decide) (by decide) v4 [] ps (some a1) ps.length c3 (fun _ => True) (fun _ => False) rfl rfl HO4.out (Kd.C_below (Kd.reads1 HO23.out) HB4.out) (fun p cs h => by rw [k74_open h]; exact k74_mkM _ _ _ _) (fun _ h => h.elim) (fun _ _ => trivial) HB4.out HB4.out.size (by have := HPQ.out; simp; omega) ?_; intro v5 w5 ho5 hb5 hg5 hat5; have HO5 := aM ho5; have HB5 := aM hb5; clear ho5 hb5 hg5 hat5))
  | ((with_reducible refine gate_builtin (b := .append) (xs := #[.tmp 61, .tmp 62]) rfl ?_); at_builtin; go_loud (refine Kd.R_append_rows k74 (Rr := (k74).K w5) (w0 := w3) w3.heap.size rfl (.tmp 61) (.tmp 62) 62 74 (.agg #[(.string ⟨#[]⟩), (.string ⟨#[]⟩)]) 32 rfl Try.underlying62 info74 rfl (by decide) (by decide) v5 ([] ++ ps) qs (some a2) qs.length c4 (fun _ => True) (fun _ => False) rfl rfl HO5.out (Kd.C_below (Kd.reads1 HO3.out) HB5.out) (fun p cs h => by rw [k74_open h]; exact k74_mkM _ _ _ _) (fun _ h => h.elim) (fun _ _ => trivial) HB5.out HB5.out.size (by have := HPQ.out; simp; omega) ?_; intro v6 w6 ho6 hb6 hg6 hat6; rw [List.nil_append, ← HRS.out] at ho6; obtain ⟨A6, c6, e6⟩ := Kd.R_slice ho6; subst e6; have HB6 := aM hb6; have HT6 := aM (Tr.treapS rs A6 c6 w6 (Kd.reads1 ho6) (Kd.reads2 ho6) HRL.out HKS.out); clear ho6 hb6 hg6 hat6))
  | (go_at_call 56; go_loud ((with_reducible refine HT6.out.mono ?_); rintro e w7 ⟨v7, rfl, ho7, hb7⟩; rw [← HZ.out] at ho7; obtain ⟨A7, c7, e7⟩ := Kd.R_slice ho7; subst e7; have HO7 := aM ho7; have HB7 := aM hb7; have HR7 := aM ((hb7.block (w.heap.size + 2) (by have := HB6.out.size; have := HB3.out.size; have := HB2.out.size; have := HSC.out; omega)).trans ((HB6.out.block (w.heap.size + 2) (by have := HB3.out.size; have := HB2.out.size; have := HSC.out; omega)).trans HTR3.out)); have cr : w7.cell? ⟨w.heap.size + 2, 0, none⟩ = some (.slice none 0 0) := (blk_cell HR7.out 0).trans rfl; have fr : w7.frozen? ⟨w.heap.size + 2, 0, none⟩ = false := blk_frozen HR7.out 0; clear ho7 hb7)))
 refine bodyPost_ret (results_ct rfl _ _ (w.heap.size + 2) 29 #[.slice A7 zs.length c7] (0, 0) _ rfl (blk_put HR7.out 0 _ rfl) Try.underlying29 rfl (by kernel_rfl)) rfl ?_
 have hs5 : w.heap.size + 3 ≤ w6.heap.size := by have := HB6.out.size; have := HB3.out.size; have := HB2.out.size; have := HSC.out; omega
 have HBw := (HBw3.out.trans (HB6.out.mono (by have := HB3.out.size; have := HB2.out.size; have := HSC.out; omega))).trans (HB7.out.mono (by omega))
 refine ⟨_, rfl, ?_, HBw.setCell (p := ⟨w.heap.size + 2, 0, none⟩) (by show w.heap.size ≤ w.heap.size + 2; omega) _⟩
 have h1 := Kd.R_far (p := ⟨w.heap.size + 2, 0, none⟩) (Kd.R_bound HO7.out) (fun k hk => by have h1 := hk.2.1; show k ≠ w.heap.size + 2; omega) (.slice A7 zs.length c7)
 exact Kd.R_mono (Kd.R_lower h1 (by omega)) (fun _ _ => trivial)
theorem joinS (L1 L2 : List Lb) (A1 A2 : Option Addr) (c1 c2 : Nat) (ps qs : List S74) (ok fine : Bool) (w : World)
  (h1 : ∀ W, Below w.heap.size w W → Calls Try.prog 47 #[.agg #[.slice A1 L1.length c1]] W fun e w' => ∃ v, e = .returned (.tuple #[v, .bool ok]) ∧ Kd.R k74 74 w' W.heap.size (fun _ => True) v ps ∧ Below W.heap.size W w')
  (h2 : ∀ W, Below w.heap.size w W → Calls Try.prog 47 #[.agg #[.slice A2 L2.length c2]] W fun e w' => ∃ v, e = .returned (.tuple #[v, .bool fine]) ∧ Kd.R k74 74 w' W.heap.size (fun _ => True) v qs ∧ Below W.heap.size W w')
  (hp : ps.length ≤ 60) (hq : qs.length ≤ 60) (hks : ∀ i : Nat, i < (ps ++ qs).length → (rd_T74 (ps ++ qs) (i : Int)).f0.size ≤ 1048576) :
  Calls Try.prog 28 #[.agg #[.slice A1 L1.length c1], .agg #[.slice A2 L2.length c2]] w fun e w' => ∃ v0_ : Value, e = .returned (.tuple #[.agg #[v0_], .bool (jn (ps.map BuS.kv) ok (qs.map BuS.kv) fine).2]) ∧ Kd.R k71 71 w' w.heap.size (fun _ => True) v0_ (jn (ps.map BuS.kv) ok (qs.map BuS.kv) fine).1 ∧ Below w.heap.size w w' := by
 have ejc : jc (ps.map BuS.kv) (qs.map BuS.kv) = (decide (ps.length = 0) || (decide (qs.length = 0) || ls ((ps.map BuS.kv).getD (ps.length - 1) zKV).1 ((qs.map BuS.kv).getD 0 zKV).1)) := by unfold jc; rw [List.length_map, List.length_map]
 unfold jn
 rw [ejc, List.length_map, List.length_map]
 cases ok with
 | false =>
  rw [if_neg (fun h => by cases h.1)]
  exact joinS_n1 L1 L2 A1 A2 c1 c2 ps qs _ fine w h1 h2 hp hq rfl
 | true =>
  cases fine with
  | false =>
   rw [if_neg (fun h => by cases h.2.1)]
   exact joinS_n2 L1 L2 A1 A2 c1 c2 ps qs _ _ w h1 h2 hp hq rfl rfl
  | true =>
   by_cases hs : ps.length + qs.length ≤ 60
   ·
    by_cases hx : ps.length = 0
    ·
     rw [if_pos ⟨rfl, rfl, hs, by rw [decide_eq_true hx]; rfl⟩]
     exact joinS_y1 L1 L2 A1 A2 c1 c2 ps qs _ _ w h1 h2 hp hq rfl rfl hs hx hks
    ·
     by_cases hy : qs.length = 0
     ·
      rw [if_pos ⟨rfl, rfl, hs, by rw [decide_eq_true hy, Bool.true_or, Bool.or_true]⟩]
      exact joinS_y2 L1 L2 A1 A2 c1 c2 ps qs _ _ w h1 h2 hp hq rfl rfl hs hx hy hks
     ·
      have e1 := (BuS.kv_key ps (ps.length - 1) (by omega)).1
      have e2 := (BuS.kv_key qs 0 (by omega)).1
      cases hge : ls ((ps.map BuS.kv).getD (ps.length - 1) zKV).1 ((qs.map BuS.kv).getD 0 zKV).1 with
      | true =>
       rw [if_pos ⟨rfl, rfl, hs, by rw [Bool.or_true, Bool.or_true]⟩]
       rw [e1, e2] at hge
       exact joinS_y3 L1 L2 A1 A2 c1 c2 ps qs _ _ w h1 h2 hp hq rfl rfl hs hx hy hge hks
      | false =>
       rw [if_neg (fun h => by have := h.2.2.2; rw [decide_eq_false hx, decide_eq_false hy] at this; cases this)]
       rw [e1, e2] at hge
       exact joinS_n4 L1 L2 A1 A2 c1 c2 ps qs _ _ w h1 h2 hp hq rfl rfl hs hx hy hge
   ·
    rw [if_neg (fun h => hs h.2.2.1)]
    exact joinS_n3 L1 L2 A1 A2 c1 c2 ps qs _ _ w h1 h2 hp hq rfl rfl hs
end Go.Proofs.Ytjknkeipginpcaa.TrG
end

section
namespace Go.Proofs.Ytjknkeipginpcaa.TrG
set_option linter.unusedVariables false
open Go.RowKit Go.Proofs.Ytjknkeipginpcaa.PQ Go.Proofs.YtjknkeipginpcaaW.PrintWords Go.Proofs.Ytjknkeipginpcaa.Pre Go.Proofs.Ytjknkeipginpcaa.Tr Go.Proofs.Ytjknkeipginpcaa.Pr Go.Proofs.Ytjknkeipginpcaa.Po
def ansJ (L1 L2 : List Lb) : List Lb × Bool := jn ((ansP L1).1.map BuI.kv) (ansP L1).2 ((ansP L2).1.map BuI.kv) (ansP L2).2
theorem jn_no (l m : List KV) (ok fine : Bool) (h : ¬ (ok = true ∧ fine = true)) : jn l ok m fine = ([], false) := if_neg (fun h2 => h ⟨h2.1, h2.2.1⟩)
theorem app_ok (l m : List Pa) (hl : ∀ x ∈ l, x.f0.size ≤ 40 ∧ x.f1.size ≤ 60) (hm : ∀ x ∈ m, x.f0.size ≤ 40 ∧ x.f1.size ≤ 60) : ∀ x ∈ l ++ m, x.f0.size ≤ 40 ∧ x.f1.size ≤ 60 := fun x hx => (List.mem_append.1 hx).elim (hl x) (hm x)
theorem joinTreapsI (L1 L2 : List Lb) (A1 A2 : Option Addr) (c1 c2 : Nat) (w : World) (hC1 : Kd.C k71 w A1 L1.length L1) (hc1 : L1.length ≤ c1) (hL1 : L1.length ≤ 1048576) (hC2 : Kd.C k71 w A2 L2.length L2) (hc2 : L2.length ≤ c2) (hL2 : L2.length ≤ 1048576) :
  Calls Try.prog 29 #[.agg #[.slice A1 L1.length c1], .agg #[.slice A2 L2.length c2]] w fun e w' => ∃ v0_ : Value, e = .returned (.tuple #[.agg #[v0_], .bool (ansJ L1 L2).2]) ∧ Kd.R k71 71 w' w.heap.size (fun _ => True) v0_ (ansJ L1 L2).1 ∧ Below w.heap.size w w' :=
 joinI L1 L2 A1 A2 c1 c2 (ansP L1).1 (ansP L2).1 (ansP L1).2 (ansP L2).2 w (fun W hb => Po.calls L1 A1 c1 W (Kd.C_below hC1 hb) hc1 hL1) (fun W hb => Po.calls L2 A2 c2 W (Kd.C_below hC2 hb) hc2 hL2) (ansP_ri L1).2.1 (ansP_ri L2).2.1 (keys_ok (app_ok _ _ (ansP_ri L1).2.2 (ansP_ri L2).2.2))
/-- The reference's side, told by the program's. -/
theorem sideS (L : List Lb) : ∃ (ps : List Pb) (k : Nat), spec_l7Of.f k L = some (ps, (ansP L).2) ∧ ps.length ≤ 60 ∧ (∀ x ∈ ps, x.f0.size ≤ 40 ∧ x.f1.size ≤ 60) ∧ ((ansP L).2 = true → ps.map BuS.kv = (ansP L).1.map BuI.kv) := by
 rcases both L with ⟨l, hg, h1, h2⟩ | ⟨h1, _, h2⟩
 ·
  obtain ⟨k, hk⟩ := h2.ex
  have hri := ansP_ri L
  rw [h1] at hri ⊢
  refine ⟨l.map bkS, k, hk, by have := hri.2.1; rw [List.length_map] at this ⊢; exact this, fun x hx => ?_, fun _ => by show (l.map bkS).map BuS.kv = (l.map bkI).map BuI.kv; rw [bkS_kv, bkI_kv]⟩
  obtain ⟨y, hy, rfl⟩ := List.mem_map.1 hx
  exact hri.2.2 (bkI y) (List.mem_map.2 ⟨y, hy, rfl⟩)
 ·
  obtain ⟨k, hk⟩ := h2.ex
  rw [h1]
  exact ⟨[], k, hk, by simp, by simp, fun h => by cases h⟩
theorem keys_okS {ps : List Pb} (h : ∀ x ∈ ps, x.f0.size ≤ 40 ∧ x.f1.size ≤ 60) : ∀ i : Nat, i < ps.length → (rd_T74 ps (i : Int)).f0.size ≤ 1048576 := by
 intro i hi
 have e : rd_T74 ps (i : Int) = ps[i] := by
  unfold rd_T74
  simp [hi]
 rw [e]
 have := (h _ (List.getElem_mem hi)).1
 omega
theorem joinTreapsS (L1 L2 : List Lb) (A1 A2 : Option Addr) (c1 c2 : Nat) (w : World) (hC1 : Kd.C k71 w A1 L1.length L1) (hc1 : L1.length ≤ c1) (hC2 : Kd.C k71 w A2 L2.length L2) (hc2 : L2.length ≤ c2) :
  Calls Try.prog 28 #[.agg #[.slice A1 L1.length c1], .agg #[.slice A2 L2.length c2]] w fun e w' => ∃ v0_ : Value, e = .returned (.tuple #[.agg #[v0_], .bool (ansJ L1 L2).2]) ∧ Kd.R k71 71 w' w.heap.size (fun _ => True) v0_ (ansJ L1 L2).1 ∧ Below w.heap.size w w' := by
 obtain ⟨ps, k1, e1, l1, s1, h1⟩ := sideS L1
 obtain ⟨qs, k2, e2, l2, s2, h2⟩ := sideS L2
 have ej : ansJ L1 L2 = jn (ps.map BuS.kv) (ansP L1).2 (qs.map BuS.kv) (ansP L2).2 := by
  unfold ansJ
  by_cases hb : (ansP L1).2 = true ∧ (ansP L2).2 = true
  ·
   rw [h1 hb.1, h2 hb.2]
  ·
   rw [jn_no _ _ _ _ hb, jn_no _ _ _ _ hb]
 rw [ej]
 exact joinS L1 L2 A1 A2 c1 c2 ps qs (ansP L1).2 (ansP L2).2 w (fun W hb => spec_l7Of.calls k1 A1 c1 L1 ps _ W (Kd.C_below hC1 hb) hc1 e1) (fun W hb => spec_l7Of.calls k2 A2 c2 L2 qs _ W (Kd.C_below hC2 hb) hc2 e2) l1 l2 (keys_okS (fun x hx => (List.mem_append.1 hx).elim (s1 x) (s2 x)))
end Go.Proofs.Ytjknkeipginpcaa.TrG
end

section
namespace Go.Proofs.Ytjknkeipginpcaa.TrG
set_option linter.unusedVariables false
open Go.RowKit Go.Proofs.Ytjknkeipginpcaa.PQ Go.Proofs.YtjknkeipginpcaaW.PrintWords Go.Proofs.YtjknkeipginpcaaW.PrintLast Go.Proofs.YtjknkeipginpcaaW.PrintMore Go.Proofs.Ytjknkeipginpcaa.Pre Go.Proofs.Ytjknkeipginpcaa.Tr Go.Proofs.Ytjknkeipginpcaa.Pr Go.Proofs.Ytjknkeipginpcaa.Po
/-- In which blocks a row of limbs lies. -/
def Rng (v : Value) (a b : Nat) : Prop := ∀ k, v.ownBlock = some k → a ≤ k ∧ k < b
theorem Rng.of {W : World} {base : Nat} {ok : Nat → Prop} {v : Value} {xs : List Lb} (h : Kd.R k71 71 W base ok v xs) : Rng v base W.heap.size := fun k hk => ⟨((Kd.R_bound h).1 k hk).2.1, ((Kd.R_bound h).1 k hk).2.2.1⟩
/-- A row of limbs of one's own. -/
abbrev Lr (W : World) (lo : Nat) (v : Value) (xs : List Lb) : Prop := Kd.R k71 71 W lo (fun k => some k = v.ownBlock) v xs
theorem Lr.of {W : World} {base lo : Nat} {ok : Nat → Prop} {v : Value} {xs : List Lb} (h : Kd.R k71 71 W base ok v xs) (hl : lo ≤ base) : Lr W lo v xs := Kd.R_tight rfl (Kd.R_lower h hl)
theorem Lr.below {W W2 : World} {lo : Nat} {v : Value} {xs : List Lb} (h : Lr W lo v xs) (hb : Below W.heap.size W W2) : Lr W2 lo v xs := Kd.R_below h hb
theorem Lr.kept {W W2 : World} {lo : Nat} {v u : Value} {xs : List Lb} (h : Lr W lo v xs) (hk : Kept W W2 (fun k => some k = u.ownBlock)) (hne : ∀ k, v.ownBlock = some k → u.ownBlock = some k → False) : Lr W2 lo v xs :=
 Kd.R_step h (fun k hk2 hlt => hk.2 k hlt (fun h3 => hne k hk2.symm h3.symm))
theorem Lr.c {W : World} {lo : Nat} {A : Option Addr} {n c : Nat} {xs : List Lb} (h : Lr W lo (.slice A n c) xs) : Kd.C k71 W A xs.length xs := (Kd.R_reads' h).2.2
theorem Lr.n {W : World} {lo : Nat} {A : Option Addr} {c : Nat} {xs : List Lb} (h : Lr W lo (.slice A xs.length c) xs) : xs.length ≤ c := (Kd.R_reads' h).2.1
theorem Lr.len {W : World} {lo : Nat} {A : Option Addr} {n c : Nat} {xs : List Lb} (h : Lr W lo (.slice A n c) xs) : n = xs.length ∧ n ≤ c := ⟨(Kd.R_reads' h).1, (Kd.R_reads' h).2.1⟩
theorem Lr.slice {W : World} {lo : Nat} {v : Value} {xs : List Lb} (h : Lr W lo v xs) : ∃ A c, v = .slice A xs.length c := Kd.R_slice h
/-- A box. -/
abbrev Bx (W : World) (b : Nat) (v : Value) (t : TypeId) : Prop := W.heap[b]? = some (.cells #[v] t (0, 0))
theorem Bx.below {W W2 : World} {b : Nat} {v : Value} {t : TypeId} (h : Bx W b v t) (hb : Below W.heap.size W W2) : Bx W2 b v t := (hb.block b (blk_lt h)).trans h
theorem Bx.kept {W W2 : World} {b : Nat} {v u : Value} {t : TypeId} (h : Bx W b v t) (hk : Kept W W2 (fun k => some k = u.ownBlock)) (hne : u.ownBlock = some b → False) : Bx W2 b v t := (hk.2 b (blk_lt h) (fun e => hne e.symm)).trans h
theorem Bx.cell {W : World} {b : Nat} {v : Value} {t : TypeId} (h : Bx W b v t) : W.cell? ⟨b, 0, none⟩ = some v := (blk_cell h 0).trans rfl
theorem Bx.drew {W : World} {b : Nat} {v : Value} {t : TypeId} (h : Bx W b v t) : Bx W.drew b v t := h
theorem Lr.drew {W : World} {lo : Nat} {v : Value} {xs : List Lb} (h : Lr W lo v xs) : Lr W.drew lo v xs := Kd.R_drew h
theorem Rng.mono {v : Value} {a b a' b' : Nat} (h : Rng v a b) (ha : a' ≤ a) (hb : b ≤ b') : Rng v a' b' := fun k hk => by
 have := h k hk
 omega
theorem Lr.set {W : World} {lo b : Nat} {v v0 : Value} {xs : List Lb} (h : Lr W lo v xs) (hz : Bx W b v0 29) (u : Value) : Lr (W.setCell ⟨b, 0, none⟩ u) lo v xs := Kd.R_set h hz (by decide) 0 u
theorem Bx.set {W : World} {b g : Nat} {v : Value} {t : TypeId} (h : Bx W b v t) (hne : b ≠ g) (u : Value) : Bx (W.setCell ⟨g, 0, none⟩ u) b v t := blk_far h hne u
theorem Bx.put {W : World} {b : Nat} {v : Value} {t : TypeId} (h : Bx W b v t) (u : Value) : Bx (W.setCell ⟨b, 0, none⟩ u) b u t := blk_put h 0 _ rfl
theorem two {w : World} (v0 v1 : Value) (t : TypeId) : Bx ((w.alloc (.cells #[v0] t)).alloc (.cells #[v1] t)) w.heap.size v0 t ∧ Bx ((w.alloc (.cells #[v0] t)).alloc (.cells #[v1] t)) (w.heap.size + 1) v1 t ∧ Below w.heap.size w ((w.alloc (.cells #[v0] t)).alloc (.cells #[v1] t)) := by
 refine ⟨xblk_alloc (at_new w _) _, ?_, below_alloc (below_alloc (Below.refl _ _) _) _⟩
 have := at_new (w.alloc (.cells #[v0] t)) (.cells #[v1] t)
 rw [new_size] at this
 exact this
theorem one {w : World} (v0 : Value) (t : TypeId) : Bx (w.alloc (.cells #[v0] t)) w.heap.size v0 t ∧ Below w.heap.size w (w.alloc (.cells #[v0] t)) := ⟨at_new w _, below_alloc (Below.refl _ _) _⟩
theorem far {a b c d : Nat} {v u : Value} (hv : Rng v a b) (hu : Rng u c d) (h : b ≤ c ∨ d ≤ a) : ∀ k, v.ownBlock = some k → u.ownBlock = some k → False := fun k h1 h2 => by
 have := hv k h1
 have := hu k h2
 omega
theorem out {a b g : Nat} {u : Value} (hu : Rng u a b) (h : g < a ∨ b ≤ g) : u.ownBlock = some g → False := fun h1 => by
 have := hu g h1
 omega
/-- impl.SplitTreap. -/
theorem split_impl (L : List Lb) (hm : L.length ≤ 1048576) (key : ByteArray) : impl_SplitTreap.f L key = some (ansS L key) := by
 have hP : impl_pairsOf.f L = some (ansP L) := if_pos hm
 have hri := ansP_ri L
 have hpl := plc_le ((ansP L).1.map BuI.kv) key
 rw [List.length_map] at hpl
 unfold impl_SplitTreap.f ansS
 rw [hP]
 simp only [Option.bind_some]
 by_cases hok : (ansP L).2 = true
 ·
  rw [if_pos hok, if_pos hok]
  have hpo : impl_placeOf.f (ansP L).1 key = some (((plc ((ansP L).1.map BuI.kv) key : Nat) : Int), hsk ((ansP L).1.map BuI.kv) key) := if_pos ⟨by have := hri.2.1; omega, hri.1⟩
  rw [hpo]
  simp only [Option.bind_some, Int.toNat_natCast]
  rw [if_pos (by omega), if_pos (by omega)]
  have tr : ∀ ps : List Pa, (∀ x ∈ ps, x ∈ (ansP L).1) → ps.length ≤ 60 → impl_treapOf.f ps = some (enc (ps.map BuI.kv).length 0 (ps.map BuI.kv)) := fun ps hx hl => by
   rw [List.length_map]
   exact if_pos ⟨by omega, fun x h => by have := (hri.2.2 x (hx x h)).1; omega⟩
  rw [tr _ (fun x h => List.mem_of_mem_take h) (by rw [List.length_take]; omega)]
  simp only [Option.bind_some]
  rw [tr _ (fun x h => List.mem_of_mem_drop h) (by rw [List.length_drop]; omega), List.map_take, List.map_drop]
  rfl
 ·
  rw [if_neg hok, if_neg hok]
end Go.Proofs.Ytjknkeipginpcaa.TrG
end

section
namespace Go.Proofs.Ytjknkeipginpcaa.PQ
open Go.RowKit Go.Proofs.YtjknkeipginpcaaW.PrintWords Go.Proofs.YtjknkeipginpcaaW.PrintLast Go.Proofs.YtjknkeipginpcaaW.PrintMore
attribute [local go_sem] max2_int min2_int max_two min_two max_three min_three max_four min_four
set_option linter.unusedVariables false
set_option linter.unusedSimpArgs false
def impl_JoinTreaps.f (l0_0 : List (S71)) (l1_0 : List (S71)) : Option (List (S71) × Bool) := if (l0_0.length ≤ 1048576 ∧ l1_0.length ≤ 1048576) then some (TrG.ansJ l0_0 l1_0) else none
theorem impl_JoinTreaps.calls (A0_0 : Option Addr) (c0_0 : Nat) (l0_0 : List (S71)) (A1_0 : Option Addr) (c1_0 : Nat) (l1_0 : List (S71)) (r1 : List (S71)) (r2 : Bool) (w : World) (hr0_0 : Kd.C k71 w A0_0 l0_0.length l0_0) (hc0_0 : l0_0.length ≤ c0_0) (hr1_0 : Kd.C k71 w A1_0 l1_0.length l1_0) (hc1_0 : l1_0.length ≤ c1_0) (h : impl_JoinTreaps.f l0_0 l1_0 = some (r1, r2)) :
  Calls Try.prog 29 #[.agg #[.slice A0_0 l0_0.length c0_0], .agg #[.slice A1_0 l1_0.length c1_0]] w fun e w' => ∃ v0_ : Value, e = .returned (.tuple #[.agg #[v0_], .bool r2]) ∧ Kd.R k71 71 w' w.heap.size (fun _ => True) v0_ r1 ∧ Below w.heap.size w w' := by
 unfold impl_JoinTreaps.f at h
 split at h
 ·
  rename_i hs
  have h1 := Option.some.inj h
  have := TrG.joinTreapsI l0_0 l1_0 A0_0 A1_0 c0_0 c1_0 w hr0_0 hc0_0 hs.1 hr1_0 hc1_0 hs.2
  rw [h1] at this
  exact this
 ·
  cases h

def spec_JoinTreaps.f (l0_0 : List (S71)) (l1_0 : List (S71)) : Option (List (S71) × Bool) := if (l0_0.length ≤ 1048576 ∧ l1_0.length ≤ 1048576) then some (TrG.ansJ l0_0 l1_0) else none
theorem spec_JoinTreaps.calls (A0_0 : Option Addr) (c0_0 : Nat) (l0_0 : List (S71)) (A1_0 : Option Addr) (c1_0 : Nat) (l1_0 : List (S71)) (r1 : List (S71)) (r2 : Bool) (w : World) (hr0_0 : Kd.C k71 w A0_0 l0_0.length l0_0) (hc0_0 : l0_0.length ≤ c0_0) (hr1_0 : Kd.C k71 w A1_0 l1_0.length l1_0) (hc1_0 : l1_0.length ≤ c1_0) (h : spec_JoinTreaps.f l0_0 l1_0 = some (r1, r2)) :
  Calls Try.prog 28 #[.agg #[.slice A0_0 l0_0.length c0_0], .agg #[.slice A1_0 l1_0.length c1_0]] w fun e w' => ∃ v0_ : Value, e = .returned (.tuple #[.agg #[v0_], .bool r2]) ∧ Kd.R k71 71 w' w.heap.size (fun _ => True) v0_ r1 ∧ Below w.heap.size w w' := by
 unfold spec_JoinTreaps.f at h
 split at h
 ·
  rename_i hs
  have h1 := Option.some.inj h
  have := TrG.joinTreapsS l0_0 l1_0 A0_0 A1_0 c0_0 c1_0 w hr0_0 hc0_0 hr1_0 hc1_0
  rw [h1] at this
  exact this
 ·
  cases h

end Go.Proofs.Ytjknkeipginpcaa.PQ
end

section
namespace Go.Proofs.Ytjknkeipginpcaa.TrG
set_option linter.unusedVariables false
set_option linter.unusedSimpArgs false
open Go.RowKit Go.Proofs.Ytjknkeipginpcaa.PQ Go.Proofs.YtjknkeipginpcaaW.PrintWords Go.Proofs.YtjknkeipginpcaaW.PrintLast Go.Proofs.Ytjknkeipginpcaa.Pre Go.Proofs.Ytjknkeipginpcaa.Tr Go.Proofs.Ytjknkeipginpcaa.Pr Go.Proofs.Ytjknkeipginpcaa.Po
theorem sameTreaps_ev (l : List Lb) (hl : l.length ≤ 1048576) : Evt (fun k => laws_sameTreaps.f k l l) true := by
 unfold laws_sameTreaps.f
 refine Evt.pos rfl ?_
 have key : ∀ (m i : Nat), i + m = l.length → Evt (fun k => laws_sameTreaps.l0 k (l.length : Int) (i : Int) l l) true := by
  intro m
  induction m with
  | zero => intro i hi; exact Evt.step (fun k => laws_sameTreaps.l0.eq_2 _ _ _ _ k) (Evt.neg (by omega) (Evt.const _))
  | succ m ih =>
   intro i hi
   refine Evt.step (fun k => laws_sameTreaps.l0.eq_2 _ _ _ _ k) (Evt.pos (by omega) (Evt.pos (by omega) (Evt.pos (by omega) (Evt.pos (by omega) (Evt.neg (by simp) ?_)))))
   rw [w64 (n := (i : Int) + 1) (by omega) (by omega)]
   exact ih (i + 1) (by omega)
 exact key l.length 0 (by omega)
theorem sameTexts_ev (l : List ByteArray) (hl : l.length ≤ 1048576) : Evt (fun k => laws_sameTexts.f k l l) true := by
 unfold laws_sameTexts.f
 refine Evt.pos rfl ?_
 have key : ∀ (m i : Nat), i + m = l.length → Evt (fun k => laws_sameTexts.l0 k l l (l.length : Int) (i : Int)) true := by
  intro m
  induction m with
  | zero => intro i hi; exact Evt.step (fun k => laws_sameTexts.l0.eq_2 _ _ _ _ k) (Evt.neg (by omega) (Evt.const _))
  | succ m ih =>
   intro i hi
   refine Evt.step (fun k => laws_sameTexts.l0.eq_2 _ _ _ _ k) (Evt.pos (by omega) (Evt.pos (by omega) (Evt.pos (by omega) (Evt.pos (by omega) (Evt.pos rfl ?_)))))
   rw [w64 (n := (i : Int) + 1) (by omega) (by omega)]
   exact ih (i + 1) (by omega)
 exact key l.length 0 (by omega)
/-- A key and a value of fit size. -/
def okX (x : KV) : Prop := 1 ≤ x.1.size ∧ x.1.size ≤ 40 ∧ x.2.size ≤ 60
theorem getD_get (l : List KV) (i : Nat) (h : i < l.length) : l.getD i zKV = l[i] := by
 rw [List.getD_eq_getElem?_getD, List.getElem?_eq_getElem h]
 rfl
theorem ok_iff (l : List KV) : (∀ i, i < l.length → okV l i = true) ↔ Ri l ∧ ∀ x ∈ l, okX x := by
 constructor
 ·
  intro h
  refine ⟨ri_of_ok h, fun x hx => ?_⟩
  obtain ⟨i, hi, rfl⟩ := List.getElem_of_mem hx
  have := h i hi
  unfold okV at this
  rw [getD_get l i hi] at this
  simp only [Bool.and_eq_true, decide_eq_true_eq] at this
  exact ⟨this.1.1.1, this.1.1.2, this.1.2⟩
 ·
  rintro ⟨hr, hk⟩ i hi
  have h1 := hk _ (List.getElem_mem hi)
  unfold okV
  rw [getD_get l i hi]
  simp only [Bool.and_eq_true, Bool.or_eq_true, decide_eq_true_eq]
  refine ⟨⟨⟨h1.1, h1.2.1⟩, h1.2.2⟩, ?_⟩
  by_cases h0 : i = 0
  ·
   exact .inl h0
  ·
   right
   rw [getD_get l (i - 1) (by omega)]
   exact List.pairwise_iff_getElem.1 hr (i - 1) i (by omega) hi (by omega)
theorem good_enc {l : List KV} (h : l.length ≤ 60) (hr : Ri l) (hk : ∀ x ∈ l, okX x) : Good (enc l.length 0 l) l := ⟨h, (ok_iff l).2 ⟨hr, hk⟩, rfl⟩
theorem Good.ri {L : List Lb} {l : List KV} (h : Good L l) : Ri l := ((ok_iff l).1 h.2.1).1
theorem Good.ok {L : List Lb} {l : List KV} (h : Good L l) : ∀ x ∈ l, okX x := ((ok_iff l).1 h.2.1).2
theorem good_f {L : List Lb} {l : List KV} (h : Good L l) (hm : L.length ≤ 1048576) : impl_GoodTreap.f L = some true := by
 unfold impl_GoodTreap.f
 rw [show impl_pairsOf.f L = some (ansP L) from if_pos hm, ansP_good h]
 rfl
theorem take_ls (l : List KV) (key : ByteArray) : ∀ x ∈ l.take (plc l key), ls x.1 key = true := by
 have e : l.take (plc l key) = l.takeWhile (fun x => ls x.1 key) := by
  unfold plc
  exact (List.prefix_iff_eq_take.1 (List.takeWhile_prefix _)).symm
 intro x hx
 rw [e] at hx
 exact List.all_eq_true.1 (List.all_takeWhile (p := fun x : KV => ls x.1 key) (l := l)) x hx
theorem drop_ls (l : List KV) (key : ByteArray) (hr : Ri l) : ∀ x ∈ l.drop (plc l key), ls x.1 key = false := by
 intro x hx
 obtain ⟨i, hi, rfl⟩ := List.getElem_of_mem hx
 have hi2 : plc l key + i < l.length := by rw [List.length_drop] at hi; omega
 rw [List.getElem_drop]
 have := plc_spec l key hr (plc l key + i) hi2
 rw [getD_get l _ hi2] at this
 rw [this]
 exact decide_eq_false (by omega)
/-- What a treap is split into. -/
theorem split_facts {L s0 s1 : List Lb} {key : ByteArray} (h : ansS L key = (s0, s1, true)) : ∃ p q, Good L (p ++ q) ∧ Good s0 p ∧ Good s1 q ∧ (∀ x ∈ p, ls x.1 key = true) ∧ (∀ x ∈ q, ls x.1 key = false) := by
 unfold ansS at h
 by_cases hok : (ansP L).2 = true
 ·
  rw [if_pos hok] at h
  have hg := ansP_true hok
  generalize (ansP L).1.map BuI.kv = l at h hg
  simp only [Prod.mk.injEq, and_true] at h
  obtain ⟨rfl, rfl⟩ := h
  have h60 := hg.1
  have hri := hg.ri
  have hri2 : Ri (l.take (plc l key) ++ l.drop (plc l key)) := by rw [List.take_append_drop]; exact hri
  have hp := List.pairwise_append.1 hri2
  refine ⟨l.take (plc l key), l.drop (plc l key), by rw [List.take_append_drop]; exact hg, good_enc (by rw [List.length_take]; omega) hp.1 (fun x hx => hg.ok x (List.mem_of_mem_take hx)), good_enc (by rw [List.length_drop]; omega) hp.2.1 (fun x hx => hg.ok x (List.mem_of_mem_drop hx)), take_ls l key, drop_ls l key hri⟩
 ·
  rw [if_neg hok] at h
  simp at h
theorem jc_true {p q : List KV} (h : Ri (p ++ q)) : jc p q = true := by
 have hp := (List.pairwise_append.1 h).2.2
 unfold jc
 by_cases h0 : p.length = 0
 ·
  rw [decide_eq_true h0]; rfl
 ·
  by_cases h1 : q.length = 0
  ·
   rw [decide_eq_true h1, Bool.true_or, Bool.or_true]
  ·
   rw [getD_get p _ (by omega), getD_get q _ (by omega), hp _ (List.getElem_mem (by omega)) _ (List.getElem_mem (by omega)), Bool.or_true, Bool.or_true]
theorem ri_append {p q : List KV} (hp : Ri p) (hq : Ri q) (h : jc p q = true) : Ri (p ++ q) := by
 refine List.pairwise_append.2 ⟨hp, hq, fun a ha b hb => ?_⟩
 obtain ⟨i, hi, rfl⟩ := List.getElem_of_mem ha
 obtain ⟨j, hj, rfl⟩ := List.getElem_of_mem hb
 unfold jc at h
 rw [decide_eq_false (by omega), decide_eq_false (by omega), Bool.false_or, Bool.false_or, getD_get p _ (by omega), getD_get q _ (by omega)] at h
 have h1 : ls (p[i]).1 (q[0]).1 = true := by
  by_cases e : i = p.length - 1
  ·
   subst e; exact h
  ·
   exact ls_trans (List.pairwise_iff_getElem.1 hp i (p.length - 1) hi (by omega) (by omega)) h
 by_cases e : j = 0
 ·
  subst e; exact h1
 ·
  exact ls_trans h1 (List.pairwise_iff_getElem.1 hq 0 j (by omega) hj (by omega))
theorem join_f (P Q : List Lb) (hP : P.length ≤ 1048576) (hQ : Q.length ≤ 1048576) : impl_JoinTreaps.f P Q = some (ansJ P Q) ∧ spec_JoinTreaps.f P Q = some (ansJ P Q) := ⟨if_pos ⟨hP, hQ⟩, if_pos ⟨hP, hQ⟩⟩
theorem join_back {L s0 s1 : List Lb} {p q : List KV} (hg : Good L (p ++ q)) (h0 : Good s0 p) (h1 : Good s1 q) : ansJ s0 s1 = (L, true) := by
 unfold ansJ
 rw [ansP_good h0, ansP_good h1, show ((p.map bkI, true) : List Pa × Bool).1 = p.map bkI from rfl, show ((q.map bkI, true) : List Pa × Bool).1 = q.map bkI from rfl, bkI_kv, bkI_kv]
 unfold jn
 rw [if_pos ⟨rfl, rfl, by have := hg.1; rw [List.length_append] at this; exact this, jc_true hg.ri⟩, hg.2.2]
theorem join_good {P Q J : List Lb} (h : ansJ P Q = (J, true)) : ∃ l, Good J l ∧ J.length = P.length + Q.length := by
 unfold ansJ jn at h
 by_cases hc : (ansP P).2 = true ∧ (ansP Q).2 = true ∧ ((ansP P).1.map BuI.kv).length + ((ansP Q).1.map BuI.kv).length ≤ 60 ∧ jc ((ansP P).1.map BuI.kv) ((ansP Q).1.map BuI.kv) = true
 ·
  rw [if_pos hc] at h
  obtain ⟨h0, h1, h2, h3⟩ := hc
  have g0 := ansP_true h0
  have g1 := ansP_true h1
  generalize (ansP P).1.map BuI.kv = l at *
  generalize (ansP Q).1.map BuI.kv = m at *
  simp only [Prod.mk.injEq, and_true] at h
  subst h
  refine ⟨l ++ m, good_enc (by rw [List.length_append]; exact h2) (ri_append g0.ri g1.ri h3) (fun x hx => (List.mem_append.1 hx).elim (g0.ok x) (g1.ok x)), ?_⟩
  rw [enc_len _ _ _ (Nat.le_refl _), List.length_append, g0.len, g1.len]
 ·
  rw [if_neg hc] at h
  simp at h
theorem keys_all {M : List Lb} {l : List KV} (h : Good M l) : Evt (fun k => impl_KeysFrom.f k M ⟨#[]⟩ ⟨#[]⟩) (l.map (·.1), true) := by
 unfold impl_KeysFrom.f
 have hm : M.length ≤ 1048576 := by have := h.1; have := h.len; omega
 rw [show impl_pairsOf.f M = some (ansP M) from if_pos hm, ansP_good h]
 have hI := keysI_ev ⟨#[]⟩ ⟨#[]⟩ (l.map bkI) (by rw [List.length_map]; exact h.1)
 rw [bkI_kv] at hI
 have e : keysL ⟨#[]⟩ ⟨#[]⟩ l = l.map (·.1) := by
  unfold keysL
  rw [List.filter_eq_self.2]
  intro x _
  have e0 : (⟨#[]⟩ : ByteArray).toList = [] := (Byt.toList_nil_iff _).2 rfl
  unfold kp
  have e1 : Op.bytesLess x.1.toList (⟨#[]⟩ : ByteArray).toList = false := by
   show ls x.1 ⟨#[]⟩ = false
   rw [ls_eq]
   exact decide_eq_false (by rw [e0]; exact List.not_lt_nil _)
  rw [e1, e0]
  rfl
 rw [e] at hI
 exact Evt.bsome (Evt.pos rfl (Evt.bind hI (Evt.const _)))
theorem keys_ls {p : List KV} {key : ByteArray} {b : Bool} (h : ∀ x ∈ p, ls x.1 key = b) : ∀ i : Nat, i < (p.map (·.1)).length → Op.bytesLess (rdOf ByteArray.empty (p.map (·.1)) (i : Int)).toList key.toList = b := by
 intro i hi
 have e : rdOf ByteArray.empty (p.map (·.1)) (i : Int) = (p.map (·.1))[i] := by
  unfold rdOf
  simp only [Int.toNat_natCast]
  rw [List.getD_eq_getElem?_getD, List.getElem?_eq_getElem hi]
  rfl
 rw [e, List.getElem_map]
 rw [List.length_map] at hi
 exact h _ (List.getElem_mem hi)
theorem join_small (P Q : List Lb) : (ansJ P Q).1.length ≤ 60 := by
 unfold ansJ jn
 split
 ·
  rename_i hc
  show (enc _ 0 _).length ≤ 60
  rw [enc_len _ _ _ (Nat.le_refl _), List.length_append]
  exact hc.2.2.1
 ·
  simp
theorem drawn_below {w w' : World} (h : Drawn0 w w') : Below w.heap.size w w' := by
 obtain ⟨m, rfl⟩ := h
 exact pw_below_drewN (Below.refl _ _) m
/-- A row of texts of one's own. -/
abbrev Sr (W : World) (lo : Nat) (v : Value) (xs : List ByteArray) : Prop := Kd.R Kd.string 9 W lo (fun _ => True) v xs
theorem Sr.below {W W2 : World} {lo : Nat} {v : Value} {xs : List ByteArray} (h : Sr W lo v xs) (hb : Below W.heap.size W W2) : Sr W2 lo v xs := Kd.R_below h hb
theorem Sr.of {W : World} {base lo : Nat} {ok : Nat → Prop} {v : Value} {xs : List ByteArray} (h : Kd.R Kd.string 9 W base ok v xs) (hl : lo ≤ base) : Sr W lo v xs := Kd.R_mono (Kd.R_lower h hl) (fun _ _ => trivial)
theorem Sr.c {W : World} {lo : Nat} {A : Option Addr} {n c : Nat} {xs : List ByteArray} (h : Sr W lo (.slice A n c) xs) : Kd.C Kd.string W A xs.length xs := (Kd.R_reads' h).2.2
theorem Sr.n {W : World} {lo : Nat} {A : Option Addr} {n c : Nat} {xs : List ByteArray} (h : Sr W lo (.slice A n c) xs) : xs.length ≤ c := by
 have h1 := (Kd.R_reads' h).1
 have h2 := (Kd.R_reads' h).2.1
 omega
end Go.Proofs.Ytjknkeipginpcaa.TrG
end

section
namespace Go.Proofs.Ytjknkeipginpcaa.TrG
set_option linter.unusedVariables false
open Go.RowKit Go.Proofs.Ytjknkeipginpcaa.PQ Go.Proofs.YtjknkeipginpcaaW.PrintWords Go.Proofs.YtjknkeipginpcaaW.PrintLast Go.Proofs.Ytjknkeipginpcaa.Pre Go.Proofs.Ytjknkeipginpcaa.Tr Go.Proofs.Ytjknkeipginpcaa.Pr Go.Proofs.Ytjknkeipginpcaa.Po Go.Proofs.Ytjknkeipginpcaa.Cur
theorem num_ev : ∀ (n : Nat) (a : Int), 0 ≤ a → a ≤ (n : Int) → n ≤ 1000 → ∃ t, Evt (fun k => spec_l1Num.f k a) t ∧ t.size ≤ n + 1
 | 0, a, h0, h1, _ => ⟨_, Evt.step (fun k => spec_l1Num.f.eq_2 _ k) (Evt.pos (by omega) (Evt.const _)), by rw [strOfNums_size]; exact Nat.le_refl _⟩
 | n + 1, a, h0, h1, hn => by
  by_cases h : a < 10
  ·
   exact ⟨_, Evt.step (fun k => spec_l1Num.f.eq_2 _ k) (Evt.pos h (Evt.const _)), by rw [strOfNums_size]; exact Nat.succ_le_succ (Nat.zero_le _)⟩
  ·
   have e : Int.tdiv a 10 = a / 10 := Int.tdiv_eq_ediv_of_nonneg h0
   obtain ⟨t, ht, hz⟩ := num_ev n (a / 10) (by omega) (by omega) (by omega)
   have ht2 : Evt (fun k => spec_l1Num.f k (wrap64 (Int.tdiv a 10))) t := by
    rw [e, w64 (n := a / 10) (by omega) (by omega)]
    exact ht
   refine ⟨_, Evt.step (fun k => spec_l1Num.f.eq_2 _ k) (Evt.neg h (Evt.bind ht2 (Evt.bsome (Evt.pos ?_ (Evt.const _))))), ?_⟩
   ·
    rw [strOfNums_size]
    show t.size + 1 ≤ 9223372036854775807
    omega
   ·
    rw [ByteArray.size_append, strOfNums_size]
    show t.size + 1 ≤ n + 1 + 1
    omega
theorem key_ev {l0 : List Int} (h : Bytes l0) (at_ st : Int) (h0 : 0 ≤ at_) (h1 : at_ ≤ 1000000) :
  ∃ t a' s', spec_l1Cur_treapKey.f l0 at_ st = some (t, a', s') ∧ t.size ≤ 4 ∧ at_ ≤ a' ∧ a' ≤ at_ + 4 := by
 unfold spec_l1Cur_treapKey.f
 obtain ⟨t1, a1, s1, e1, hm1, ha1, hb1⟩ := of_ev h at_ st (([(⟨#[97]⟩ : ByteArray), (⟨#[98]⟩ : ByteArray), (⟨#[107, 101, 121]⟩ : ByteArray), (⟨#[107, 49]⟩ : ByteArray), (⟨#[107, 50]⟩ : ByteArray), (⟨#[122, 122]⟩ : ByteArray), (⟨#[109]⟩ : ByteArray)] : List ByteArray)) (by simp) h0 (by omega)
 obtain ⟨t2, a2, s2, e2, hm2, ha2, hb2⟩ := of_ev h a1 s1 (([(⟨#[]⟩ : ByteArray), (⟨#[49]⟩ : ByteArray), (⟨#[120]⟩ : ByteArray), (⟨#[0]⟩ : ByteArray)] : List ByteArray)) (by simp) (by omega) (by omega)
 have z1 : t1.size ≤ 3 := by
  simp only [List.mem_cons, List.not_mem_nil, or_false] at hm1
  rcases hm1 with rfl | rfl | rfl | rfl | rfl | rfl | rfl <;> decide
 have z2 : t2.size ≤ 1 := by
  simp only [List.mem_cons, List.not_mem_nil, or_false] at hm2
  rcases hm2 with rfl | rfl | rfl | rfl <;> decide
 refine ⟨t1 ++ t2, a2, s2, ?_, ?_, by omega, by omega⟩
 ·
  rw [e1, Option.bind_some]
  show (spec_l1Cur_of.f l0 a1 s1 _).bind _ = _
  rw [e2, Option.bind_some]
  exact if_pos (by show t1.size + t2.size ≤ _; omega)
 ·
  rw [ByteArray.size_append]; omega
/-- Short, with short keys. -/
def Sm (L : List Lb) : Prop := L.length ≤ 60 ∧ ∀ x ∈ L, x.f0.size ≤ 1000
theorem enc_keys : ∀ (n b : Nat) (l : List KV), (∀ x ∈ l, x.1.size ≤ 1000) → ∀ x ∈ enc n b l, x.f0.size ≤ 1000
 | 0, b, l, h, x, hx => by simp [enc] at hx
 | n + 1, b, l, h, x, hx => by
  unfold enc at hx
  split at hx
  ·
   cases hx
  ·
   rename_i hl
   rcases List.mem_cons.1 hx with rfl | hx
   ·
    show (l.getD (top l) zKV).1.size ≤ 1000
    rw [List.getD_eq_getElem?_getD]
    cases hg : l[top l]? with
    | none => exact Nat.zero_le _
    | some y => exact h y (List.mem_of_getElem? hg)
   ·
    rcases List.mem_append.1 hx with hx | hx
    ·
     exact enc_keys n _ _ (fun y hy => h y (List.mem_of_mem_take hy)) x hx
    ·
     exact enc_keys n _ _ (fun y hy => h y (List.mem_of_mem_drop hy)) x hx
theorem Sm.nil : Sm [] := ⟨Nat.zero_le _, fun x hx => by cases hx⟩
theorem kv_keys (L : List Lb) : ∀ x ∈ (ansP L).1.map BuI.kv, x.1.size ≤ 1000 := by
 intro x hx
 obtain ⟨y, hy, rfl⟩ := List.mem_map.1 hx
 have := ((ansP_ri L).2.2 y hy).1
 show y.f0.size ≤ 1000
 omega
theorem cut_sm (L : List Lb) (key : ByteArray) : Sm (ansC L key).1 := by
 refine ⟨cut_small L key, ?_⟩
 unfold ansC
 split
 ·
  exact enc_keys _ _ _ (fun x hx => kv_keys L x (List.mem_of_mem_eraseIdx hx))
 ·
  exact Sm.nil.2
theorem put_sm (L : List Lb) (key value : ByteArray) : Sm (ansK L key value).1 := by
 refine ⟨put_small L key value, ?_⟩
 unfold ansK
 split
 ·
  rename_i hc
  refine enc_keys _ _ _ (fun x hx => ?_)
  rcases putL_mem hx with h | h
  ·
   exact kv_keys L x h
  ·
   rw [h]
   have := hc.2.1
   show key.size ≤ 1000
   omega
 ·
  exact Sm.nil.2
theorem j3_ev {l0 : List Int} (h : Bytes l0) (b : Bool) (at_ st : Int) (L : List Lb) (hL : Sm L) (hp : b = true → 0 < L.length) (h0 : 0 ≤ at_) (h1 : at_ ≤ 1000000) :
  ∃ L' a' s', Evt (fun k => spec_l1Cur_treap.j3 k b l0 at_ st L) (L', a', s') ∧ L'.length ≤ 60 ∧ at_ ≤ a' ∧ a' ≤ at_ + 6 := by
 cases b with
 | false => exact ⟨L, at_, st, Evt.step (fun k => spec_l1Cur_treap.j3.eq_2 _ _ _ _ _ k) (Evt.neg (by decide) (Evt.const _)), hL.1, by omega, by omega⟩
 | true =>
  have hl := hp rfl
  obtain ⟨i, a1, s1, e1, hi0, hi1, ha1, hb1⟩ := pick_ev h at_ st (L.length : Int) h0 (by omega)
  obtain ⟨q, a2, s2, e2, hq0, hq1, ha2, hb2⟩ := pick_ev h a1 s1 3 (by omega) (by omega)
  obtain ⟨x, a3, s3, e3, hx0, hx1, ha3, hb3⟩ := pick_ev h a2 s2 4 (by omega) (by omega)
  have hil : i < (L.length : Int) := by omega
  by_cases q0 : q = 0
  ·
   refine ⟨_, a2, s2, Evt.step (fun k => spec_l1Cur_treap.j3.eq_2 _ _ _ _ _ k) (Evt.pos rfl (Evt.bind (Evt.of fun _ => e1) (Evt.bind (Evt.of fun _ => e2) (Evt.pos q0 (Evt.pos hi0 (Evt.pos hil (Evt.pos ?_ (Evt.const _)))))))), by rw [List.length_set]; exact hL.1, by omega, by omega⟩
   have e : rd_T71 L i = L[i.toNat]'(by omega) := by
    unfold rd_T71
    simp [show i.toNat < L.length by omega]
   show (rd_T71 L i).f0.size + 1 ≤ _
   rw [e]
   have := hL.2 _ (List.getElem_mem (show i.toNat < L.length by omega))
   omega
  ·
   by_cases q1 : q = 1
   ·
    exact ⟨_, a3, s3, Evt.step (fun k => spec_l1Cur_treap.j3.eq_2 _ _ _ _ _ k) (Evt.pos rfl (Evt.bind (Evt.of fun _ => e1) (Evt.bind (Evt.of fun _ => e2) (Evt.neg q0 (Evt.pos q1 (Evt.bind (Evt.of fun _ => e3) (Evt.pos hi0 (Evt.pos hil (Evt.const _))))))))), by rw [List.length_set]; exact hL.1, by omega, by omega⟩
   ·
    exact ⟨_, a3, s3, Evt.step (fun k => spec_l1Cur_treap.j3.eq_2 _ _ _ _ _ k) (Evt.pos rfl (Evt.bind (Evt.of fun _ => e1) (Evt.bind (Evt.of fun _ => e2) (Evt.neg q0 (Evt.neg q1 (Evt.bind (Evt.of fun _ => e3) (Evt.pos hi0 (Evt.pos hil (Evt.const _))))))))), by rw [List.length_set]; exact hL.1, by omega, by omega⟩
theorem loop_ev {l0 : List Int} (h : Bytes l0) : ∀ (n : Nat) (at_ st : Int) (L : List Lb), Sm L → 0 ≤ at_ → at_ + 20 * n ≤ 900000 → n ≤ 70 →
  ∃ L' a' s', Evt (fun k => spec_l1Cur_treap.l0 k (n : Int) l0 at_ st L) (L', a', s') ∧ L'.length ≤ 60 ∧ at_ ≤ a' ∧ a' ≤ at_ + 20 * n + 10 := by
 intro n
 induction n with
 | zero =>
  intro at_ st L hL h0 h1 _
  by_cases hl : (L.length : Int) > 0
  ·
   obtain ⟨b, a1, s1, e1, ha1, hb1⟩ := one_ev h at_ st 20 h0 (by omega)
   obtain ⟨L', a2, s2, e2, hs, ha2, hb2⟩ := j3_ev h b a1 s1 L hL (fun _ => by omega) (by omega) (by omega)
   exact ⟨L', a2, s2, Evt.step (fun k => spec_l1Cur_treap.l0.eq_2 _ _ _ _ _ k) (Evt.neg (by omega) (Evt.pos hl (Evt.bind (Evt.of fun _ => e1) e2))), hs, by omega, by omega⟩
  ·
   obtain ⟨L', a2, s2, e2, hs, ha2, hb2⟩ := j3_ev h false at_ st L hL (fun h => by cases h) (by omega) (by omega)
   exact ⟨L', a2, s2, Evt.step (fun k => spec_l1Cur_treap.l0.eq_2 _ _ _ _ _ k) (Evt.neg (by omega) (Evt.neg hl e2)), hs, by omega, by omega⟩
 | succ n ih =>
  intro at_ st L hL h0 h1 hn
  have hw : wrap64 (((n + 1 : Nat) : Int) - 1) = (n : Int) := by rw [w64 (n := ((n + 1 : Nat) : Int) - 1) (by omega) (by omega)]; omega
  obtain ⟨key, a1, s1, e1, _, ha1, hb1⟩ := key_ev h at_ st h0 (by omega)
  have tail : ∀ (key : ByteArray) (a1 s1 : Int), at_ ≤ a1 → a1 ≤ at_ + 6 → ∃ L' a' s', Evt (fun k => spec_l1Cur_treap.j2 k ((n + 1 : Nat) : Int) key l0 a1 s1 L) (L', a', s') ∧ L'.length ≤ 60 ∧ at_ ≤ a' ∧ a' ≤ at_ + 20 * (n + 1 : Nat) + 10 := by
   intro key a1 s1 ha1 hb1
   obtain ⟨b, a2, s2, e2, ha2, hb2⟩ := one_ev h a1 s1 5 (by omega) (by omega)
   cases b with
   | true =>
    have hc := cut_both L key
    cases hok : (ansC L key).2 with
    | true =>
     obtain ⟨L', a3, s3, e3, hs, ha3, hb3⟩ := ih a2 s2 (ansC L key).1 (cut_sm L key) (by omega) (by omega) (by omega)
     refine ⟨L', a3, s3, Evt.step (fun k => spec_l1Cur_treap.j2.eq_2 _ _ _ _ _ _ k) (Evt.bind (Evt.of fun _ => e2) (Evt.pos rfl (Evt.bind hc (Evt.pos hok ?_)))), hs, by omega, by omega⟩
     rw [hw]; exact e3
    | false =>
     obtain ⟨L', a3, s3, e3, hs, ha3, hb3⟩ := ih a2 s2 L hL (by omega) (by omega) (by omega)
     refine ⟨L', a3, s3, Evt.step (fun k => spec_l1Cur_treap.j2.eq_2 _ _ _ _ _ _ k) (Evt.bind (Evt.of fun _ => e2) (Evt.pos rfl (Evt.bind hc (Evt.neg (by rw [hok]; decide) ?_)))), hs, by omega, by omega⟩
     rw [hw]; exact e3
   | false =>
    obtain ⟨v, a3, s3, e3, _, ha3, hb3⟩ := of_ev h a2 s2 (([(⟨#[]⟩ : ByteArray), (⟨#[118]⟩ : ByteArray), (⟨#[118, 97, 108, 117, 101]⟩ : ByteArray)] : List ByteArray)) (by simp) (by omega) (by omega)
    have hc := put_both L key v
    cases hok : (ansK L key v).2 with
    | true =>
     obtain ⟨L', a4, s4, e4, hs, ha4, hb4⟩ := ih a3 s3 (ansK L key v).1 (put_sm L key v) (by omega) (by omega) (by omega)
     refine ⟨L', a4, s4, Evt.step (fun k => spec_l1Cur_treap.j2.eq_2 _ _ _ _ _ _ k) (Evt.bind (Evt.of fun _ => e2) (Evt.neg (fun h => by cases h) (Evt.bind (Evt.of fun _ => e3) (Evt.bind hc (Evt.pos hok ?_))))), hs, by omega, by omega⟩
     rw [hw]; exact e4
    | false =>
     obtain ⟨L', a4, s4, e4, hs, ha4, hb4⟩ := ih a3 s3 L hL (by omega) (by omega) (by omega)
     refine ⟨L', a4, s4, Evt.step (fun k => spec_l1Cur_treap.j2.eq_2 _ _ _ _ _ _ k) (Evt.bind (Evt.of fun _ => e2) (Evt.neg (fun h => by cases h) (Evt.bind (Evt.of fun _ => e3) (Evt.bind hc (Evt.neg (by rw [hok]; decide) ?_))))), hs, by omega, by omega⟩
     rw [hw]; exact e4
  by_cases hbig : ((n + 1 : Nat) : Int) > 20
  ·
   obtain ⟨x, a2, s2, e2, hx0, hx1, ha2, hb2⟩ := pick_ev h a1 s1 200 (by omega) (by omega)
   obtain ⟨t, e3, ht⟩ := num_ev 200 x hx0 (by omega) (by omega)
   obtain ⟨L', a3, s3, e4, hs, ha3, hb3⟩ := tail ((⟨#[110]⟩ : ByteArray) ++ t) a2 s2 (by omega) (by omega)
   exact ⟨L', a3, s3, Evt.step (fun k => spec_l1Cur_treap.l0.eq_2 _ _ _ _ _ k) (Evt.pos (by omega) (Evt.bind (Evt.of fun _ => e1) (Evt.pos hbig (Evt.bind (Evt.of fun _ => e2) (Evt.bind e3 (Evt.pos (by omega) e4)))))), hs, ha3, hb3⟩
  ·
   obtain ⟨L', a3, s3, e4, hs, ha3, hb3⟩ := tail key a1 s1 (by omega) (by omega)
   exact ⟨L', a3, s3, Evt.step (fun k => spec_l1Cur_treap.l0.eq_2 _ _ _ _ _ k) (Evt.pos (by omega) (Evt.bind (Evt.of fun _ => e1) (Evt.neg hbig e4))), hs, ha3, hb3⟩
theorem treap_ev {l0 : List Int} (h : Bytes l0) (at_ st : Int) (h0 : 0 ≤ at_) (h1 : at_ ≤ 100000) :
  ∃ L a' s', Evt (fun k => spec_l1Cur_treap.f k l0 at_ st) (L, a', s') ∧ L.length ≤ 60 ∧ at_ ≤ a' ∧ a' ≤ at_ + 2000 := by
 unfold spec_l1Cur_treap.f
 obtain ⟨x, a1, s1, e1, hx0, hx1, ha1, hb1⟩ := pick_ev h at_ st 14 h0 (by omega)
 obtain ⟨b, a2, s2, e2, ha2, hb2⟩ := one_ev h a1 s1 20 (by omega) (by omega)
 cases b with
 | true =>
  obtain ⟨L, a3, s3, e3, hs, ha3, hb3⟩ := loop_ev h 70 a2 s2 [] Sm.nil (by omega) (by omega) (by omega)
  exact ⟨L, a3, s3, Evt.bind (Evt.of fun _ => e1) (Evt.bind (Evt.of fun _ => e2) (Evt.pos rfl (Evt.step (fun k => spec_l1Cur_treap.j0.eq_2 _ _ _ _ k) e3))), hs, by omega, by omega⟩
 | false =>
  obtain ⟨n, hn⟩ : ∃ n : Nat, x = (n : Int) := ⟨x.toNat, by omega⟩
  subst hn
  obtain ⟨L, a3, s3, e3, hs, ha3, hb3⟩ := loop_ev h n a2 s2 [] Sm.nil (by omega) (by omega) (by omega)
  exact ⟨L, a3, s3, Evt.bind (Evt.of fun _ => e1) (Evt.bind (Evt.of fun _ => e2) (Evt.neg (fun h => by cases h) (Evt.step (fun k => spec_l1Cur_treap.j0.eq_2 _ _ _ _ k) e3))), hs, by omega, by omega⟩
end Go.Proofs.Ytjknkeipginpcaa.TrG
end

section
namespace Go.Proofs.Ytjknkeipginpcaa.TrG
set_option linter.unusedVariables false
set_option linter.unusedSimpArgs false
open Go.RowKit Go.Proofs.Ytjknkeipginpcaa.PQ Go.Proofs.YtjknkeipginpcaaW.PrintWords Go.Proofs.YtjknkeipginpcaaW.PrintLast Go.Proofs.YtjknkeipginpcaaW.PrintMore Go.Proofs.Ytjknkeipginpcaa.Pre Go.Proofs.Ytjknkeipginpcaa.Tr Go.Proofs.Ytjknkeipginpcaa.Pr Go.Proofs.Ytjknkeipginpcaa.Po Go.Proofs.Ytjknkeipginpcaa.Cur
theorem Lr.cur {w0 W W2 : World} {g : Nat} {f0 : List Int} {f1 f2 : Int} {lo : Nat} {v : Value} {xs : List Lb} (h : Lr W lo v xs) (hi : IsS89 w0 W g f0 f1 f2) (hk : KeepBut W W2 g none) : Lr W2 lo v xs :=
 Kd.R_mono (Kd.R_keep (IsS89.apart hi h (by decide)) hk (fun _ hk => hk.2)) (fun _ hk => hk.1)
theorem Bx.cur {w0 W W2 : World} {g : Nat} {f0 : List Int} {f1 f2 : Int} {b : Nat} {v : Value} (h : Bx W b v 29) (hi : IsS89 w0 W g f0 f1 f2) (hk : KeepBut W W2 g none) : Bx W2 b v 29 :=
 KeepBut.blk hk h (Ne.symm (IsS89.ne_blk hi h (by decide))) (by simp)
/-- A drawn treap and key. -/
abbrev Gets (f : Nat) (l0 : List Int) (L : List Lb) (key : ByteArray) : Prop := ∀ (A0 : Option Addr) (c0 : Nat) (w : World), Kd.C (Kd.int .u8) w A0 l0.length l0 → l0.length ≤ c0 →
 Calls Try.prog f #[.slice A0 l0.length c0] w fun e w' => ∃ v : Value, e = .returned (.tuple #[.agg #[v], .string key]) ∧ Kd.R k71 71 w' w.heap.size (fun _ => True) v L ∧ Below w.heap.size w w'
set_option maxHeartbeats 2000000 in
set_option maxRecDepth 100000 in
theorem drawGet {l0 : List Int} (h : Bytes l0) : ∃ L key, L.length ≤ 60 ∧ key.size ≤ 4 ∧ Gets 63 l0 L key := by
 obtain ⟨L, a1, s1, hev, hL, ha, hb⟩ := treap_ev h 0 0 (by omega) (by omega)
 obtain ⟨k1, e1⟩ := hev.ex
 obtain ⟨key, a2, s2, e2, hz, _⟩ := key_ev h a1 s1 ha (by omega)
 refine ⟨L, key, hL, hz, fun A0 c0 w hr0 hc0 => ?_⟩
 have E1 := aM e1
 have E2 := aM e2
 obtain ⟨wA, hwA⟩ : ∃ W, W = w.alloc (.cells #[.slice none 0 0] 29) := ⟨_, rfl⟩
 have HWA := aM hwA
 obtain ⟨b0, hbA⟩ := one (w := w) (.slice none 0 0) 29
 rw [← hwA] at b0 hbA
 have hsA : wA.heap.size = w.heap.size + 1 := by rw [hwA]; exact new_size _ _
 obtain ⟨wB, hwB⟩ : ∃ W, W = wA.alloc (.cells #[.slice A0 l0.length c0, .int .i64 0, .int .u64 0] 89) := ⟨_, rfl⟩
 have HWB := aM hwB
 have hI := IsS89.new w wA A0 c0 l0 0 0 hbA hr0
 rw [← hwB, hsA] at hI
 have HI0 := aM hI
 have HB0 := aM (show Below w.heap.size w wB by rw [hwB]; exact below_alloc hbA _)
 have X0 := aM (show Bx wB w.heap.size (.slice none 0 0) 29 by rw [hwB]; exact xblk_alloc b0 _)
 clear h hev e1 e2 ha hb hz hL hwA b0 hbA hsA hwB hI hr0 hc0
 go_enter Try.func63, Try.ntmps63
 go_upto_region 2 with (fail)
 rw [← HWA.out, ← HWB.out]
 go_wp2_with (first
  | (go_at_call 64; go_loud ((with_reducible refine (spec_l1Cur_treap.calls k1 (w.heap.size + 1) l0 0 0 L a1 s1 w _ HI0.out HB0.out E1.out).mono ?_); rintro e w1 ⟨v1, rfl, ho, hi, hb, hk⟩; obtain ⟨A1, c1, e1⟩ := Kd.R_slice ho; subst e1; have R1 := aM (Lr.of (lo := w.heap.size) ho HB0.out.size); have X1 := aM (Bx.cur X0.out HI0.out hk); have HI1 := aM hi; have HB1 := aM hb; clear ho hi hb hk X0 HI0))
  | (go_at_call 65; go_loud ((with_reducible refine (spec_l1Cur_treapKey.calls (w.heap.size + 1) l0 a1 s1 key a2 s2 w _ HI1.out HB1.out E2.out).mono ?_); rintro e w2 ⟨rfl, hi, hb, hk⟩; have R2 := aM (Lr.cur R1.out HI1.out hk); have X2 := aM (Bx.cur X1.out HI1.out hk); have HB2 := aM hb; have cr : w2.cell? ⟨w.heap.size, 0, none⟩ = some (.slice none 0 0) := Bx.cell X2.out; have fr : w2.frozen? ⟨w.heap.size, 0, none⟩ = false := blk_frozen X2.out 0; clear hi hb hk X1 HI1 R1 HB1)))
 refine bodyPost_ret (results_ct rfl _ _ w.heap.size 29 #[.slice A1 L.length c1] (0, 0) _ rfl (blk_put X2.out 0 _ rfl) Try.underlying29 rfl (by kernel_rfl)) rfl ?_
 exact ⟨_, rfl, Kd.R_mono (Lr.set R2.out X2.out _) (fun _ _ => trivial), HB2.out.setCell (p := ⟨w.heap.size, 0, none⟩) (Nat.le_refl _) _⟩
/-- A drawing function that hands on. -/
theorem drawSplit {l0 : List Int} {L : List Lb} {key : ByteArray} (h : Gets 63 l0 L key) : Gets 35 l0 L key := by
 intro A0 c0 w hr0 hc0
 obtain ⟨wA, hwA⟩ : ∃ W, W = w.alloc (.cells #[.slice none 0 0] 29) := ⟨_, rfl⟩
 have HWA := aM hwA
 obtain ⟨b0, hbA⟩ := one (w := w) (.slice none 0 0) 29
 rw [← hwA] at b0 hbA
 have HX := aM b0
 have HB := aM hbA
 have HG := aM (h A0 c0 wA (Kd.C_below hr0 hbA) hc0)
 clear h hwA b0 hbA hr0 hc0
 go_enter Try.func35, Try.ntmps35
 go_wp2_with (go_at_call 63; rw [← HWA.out]; go_loud ((with_reducible refine HG.out.mono ?_); rintro e w2 ⟨v1, rfl, ho, hb⟩; obtain ⟨A1, c1, e1⟩ := Kd.R_slice ho; subst e1; have R2 := aM (Lr.of (lo := w.heap.size) ho HB.out.size); have X2 := aM (Bx.below HX.out hb); have HB2 := aM (below_step HB.out hb); have cr : w2.cell? ⟨w.heap.size, 0, none⟩ = some (.slice none 0 0) := Bx.cell X2.out; have fr : w2.frozen? ⟨w.heap.size, 0, none⟩ = false := blk_frozen X2.out 0; clear ho hb))
 refine bodyPost_ret (results_ct rfl _ _ w.heap.size 29 #[.slice A1 L.length c1] (0, 0) _ rfl (blk_put X2.out 0 _ rfl) Try.underlying29 rfl (by kernel_rfl)) rfl ?_
 exact ⟨_, rfl, Kd.R_mono (Lr.set R2.out X2.out _) (fun _ _ => trivial), HB2.out.setCell (p := ⟨w.heap.size, 0, none⟩) (Nat.le_refl _) _⟩
/-- A drawn treap and two texts. -/
abbrev Froms (f : Nat) (l0 : List Int) (L : List Lb) (a b : ByteArray) : Prop := ∀ (A0 : Option Addr) (c0 : Nat) (w : World), Kd.C (Kd.int .u8) w A0 l0.length l0 → l0.length ≤ c0 →
 Calls Try.prog f #[.slice A0 l0.length c0] w fun e w' => ∃ v : Value, e = .returned (.tuple #[.agg #[v], .string a, .string b]) ∧ Kd.R k71 71 w' w.heap.size (fun _ => True) v L ∧ Below w.heap.size w w'
set_option maxHeartbeats 2000000 in
set_option maxRecDepth 100000 in
theorem drawKeys {l0 : List Int} (h : Bytes l0) : ∃ L key to_, L.length ≤ 60 ∧ Froms 38 l0 L key to_ := by
 obtain ⟨L, a1, s1, hev, hL, ha, hb⟩ := treap_ev h 0 0 (by omega) (by omega)
 obtain ⟨k1, e1⟩ := hev.ex
 obtain ⟨key, a2, s2, e2, hz, ha2, hb2⟩ := key_ev h a1 s1 ha (by omega)
 obtain ⟨to_, a3, s3, e3, _⟩ := of_ev h a2 s2 ([(⟨#[]⟩ : ByteArray), (⟨#[98]⟩ : ByteArray), (⟨#[107, 50]⟩ : ByteArray), (⟨#[122, 122]⟩ : ByteArray)] : List ByteArray) (by simp) (by omega) (by omega)
 refine ⟨L, key, to_, hL, fun A0 c0 w hr0 hc0 => ?_⟩
 have E1 := aM e1
 have E2 := aM e2
 have E3 := aM e3
 clear h hev e1 e2 e3 ha hb hz hL ha2 hb2
 obtain ⟨wb0, hwb0⟩ : ∃ W, W = w.alloc (.cells #[.slice none 0 0] 29) := ⟨_, rfl⟩
 have HWB0 := aM hwb0
 obtain ⟨b0, hbA⟩ := one (w := w) (.slice none 0 0) 29
 rw [← hwb0] at b0 hbA
 have hsA : wb0.heap.size = w.heap.size + 1 := by rw [hwb0]; exact new_size _ _
 obtain ⟨w0, hw0⟩ : ∃ W, W = wb0.alloc (.cells #[.slice A0 l0.length c0, .int .i64 0, .int .u64 0] 89) := ⟨_, rfl⟩
 have HW0 := aM hw0
 have hI := IsS89.new w wb0 A0 c0 l0 0 0 hbA hr0
 rw [← hw0, hsA] at hI
 have HI0 := aM hI
 have HA0 := aM (show Below w.heap.size w w0 by rw [hw0]; exact below_alloc hbA _)
 have HS0 := aM (show w.heap.size + 2 ≤ w0.heap.size by rw [hw0, new_size, hsA]; exact Nat.le_refl _)
 have Xr0_0 := aM (show Bx w0 (w.heap.size) (.slice none 0 0) 29 by rw [hw0]; exact xblk_alloc b0 _)
 clear hw0 hI hsA hbA hr0 hc0 hwb0 b0
 go_enter Try.func38, Try.ntmps38
 go_upto_region 2 with (fail)
 rw [← HWB0.out, ← HW0.out]
 go_wp2_with (first | (go_at_call 64; go_loud ((with_reducible refine (spec_l1Cur_treap.calls k1 (w.heap.size + 1) l0 0 0 L a1 s1 w _ HI0.out HA0.out E1.out).mono ?_); rintro e w1 ⟨v_t, rfl, ho, hi, hb, hk⟩; obtain ⟨A_t, c_t, e_t⟩ := Kd.R_slice ho; subst e_t; have Xr0_1 := aM (Bx.cur Xr0_0.out HI0.out hk); have HI1 := aM hi; have HA1 := aM hb; have HZ0 := aM hk.1; have Rt_1 := aM (Lr.of (lo := w.heap.size) ho HA0.out.size); clear HI0 HA0 Xr0_0; clear ho hi hb hk)) | (go_at_call 65; go_loud ((with_reducible refine (spec_l1Cur_treapKey.calls (w.heap.size + 1) l0 a1 s1 key a2 s2 w _ HI1.out HA1.out E2.out).mono ?_); rintro e w2 ⟨rfl, hi, hb, hk⟩; have Rt_2 := aM (Lr.cur Rt_1.out HI1.out hk); have Xr0_2 := aM (Bx.cur Xr0_1.out HI1.out hk); have HI2 := aM hi; have HA2 := aM hb; have HZ1 := aM hk.1; clear HI1 HA1 Rt_1 Xr0_1; clear hi hb hk)) | ((with_reducible refine gate_dst (N := 14) rfl ?_); go_loud (refine Kd.R_lit Kd.string _ 9 ?hg (N := 14) ?hd (xs := ([(⟨#[]⟩ : ByteArray), (⟨#[98]⟩ : ByteArray), (⟨#[107, 50]⟩ : ByteArray), (⟨#[122, 122]⟩ : ByteArray)] : List ByteArray)) (inner := [.string (⟨#[]⟩ : ByteArray), .string (⟨#[98]⟩ : ByteArray), .string (⟨#[107, 50]⟩ : ByteArray), .string (⟨#[122, 122]⟩ : ByteArray)]) (ok := fun _ => True) (okp := fun _ => True) ?hr ?hp (fun _ hk => hk) trivial (Below.refl _ _) (Nat.le_refl _) (by simp) ?_; (case hd => rfl); (case hg => rfl); (case hr => first | (go_simp; done) | (go_simp; rfl)); (case hp => exact (Reps.one (show Kd.M Kd.string _ _ _ (⟨#[]⟩ : ByteArray) [.string (⟨#[]⟩ : ByteArray)] from rfl) (Reps.one (show Kd.M Kd.string _ _ _ (⟨#[98]⟩ : ByteArray) [.string (⟨#[98]⟩ : ByteArray)] from rfl) (Reps.one (show Kd.M Kd.string _ _ _ (⟨#[107, 50]⟩ : ByteArray) [.string (⟨#[107, 50]⟩ : ByteArray)] from rfl) (Reps.one (show Kd.M Kd.string _ _ _ (⟨#[122, 122]⟩ : ByteArray) [.string (⟨#[122, 122]⟩ : ByteArray)] from rfl) (Reps.none _ _)))))); intro vl_a w3 ho hb hg_ hnew_; clear hg_ hnew_; have HOLa := aM ho; obtain ⟨Al_a, cl_a, el_⟩ := Kd.R_slice HOLa.out; subst el_; have Rt_3 := aM (Lr.below Rt_2.out hb); have Xr0_3 := aM (Bx.below Xr0_2.out hb); have HI3 := aM (IsS89.below HI2.out hb); have HA3 := aM (below_step HA2.out hb); have HZ2 := aM hb.size; clear HI2 HA2 Rt_2 Xr0_2; clear ho hb)) | (go_at_call 67; go_loud ((refine (spec_l1Cur_of.calls (w.heap.size + 1) l0 a2 s2 Al_a cl_a ([(⟨#[]⟩ : ByteArray), (⟨#[98]⟩ : ByteArray), (⟨#[107, 50]⟩ : ByteArray), (⟨#[122, 122]⟩ : ByteArray)] : List ByteArray) to_ a3 s3 w _ HI3.out HA3.out (Kd.R_reads' HOLa.out).2.2 (Kd.R_reads' HOLa.out).2.1 (far_slice (IsS89.own_ne HI3.out HOLa.out (by decide))) E3.out).mono ?_); rintro e w4 ⟨rfl, hi, hb, hk⟩; have Rt_4 := aM (Lr.cur Rt_3.out HI3.out hk); have Xr0_4 := aM (Bx.cur Xr0_3.out HI3.out hk); have HI4 := aM hi; have HA4 := aM hb; have HZ3 := aM hk.1; clear HI3 HA3 Rt_3 Xr0_3; clear hi hb hk; have cr : w4.cell? ⟨w.heap.size, 0, none⟩ = some (.slice none 0 0) := Bx.cell Xr0_4.out; have fr : w4.frozen? ⟨w.heap.size, 0, none⟩ = false := blk_frozen Xr0_4.out 0)))
 refine bodyPost_ret (results_ctt rfl _ _ w.heap.size 29 #[.slice A_t L.length c_t] (0, 0) _ rfl (blk_put Xr0_4.out 0 _ rfl) Try.underlying29 rfl (by kernel_rfl)) rfl ?_
 exact ⟨_, rfl, Kd.R_mono (Lr.set Rt_4.out Xr0_4.out _) (fun _ _ => trivial), HA4.out.setCell (p := ⟨w.heap.size, 0, none⟩) (Nat.le_refl _) _⟩
set_option maxHeartbeats 8000000 in
set_option maxRecDepth 100000 in
theorem drawJoin_all (l0 : List Int) (L x0 x1 M M2 : List Lb) (key : ByteArray) (sb b : Bool) (a1 s1 a2 s2 a3 s3 a4 s4 a5 s5 : Int) (k1 k2 k3 k4 : Nat) (A0 : Option Addr) (c0 : Nat) (w : World) (E1 : Aside0 (spec_l1Cur_treap.f k1 l0 0 0 = some (L, a1, s1))) (E2 : Aside0 (spec_l1Cur_treapKey.f l0 a1 s1 = some (key, a2, s2))) (ES : Aside0 (spec_SplitTreap.f k2 L key = some (x0, x1, sb))) (E3 : Aside0 (spec_l1Cur_one.f l0 a2 s2 6 = some (b, a3, s3))) (E4 : Aside0 (spec_l1Cur_treap.f k3 l0 a2 s2 = some (M, a4, s4))) (E5 : Aside0 (spec_l1Cur_treap.f k4 l0 a3 s3 = some (M2, a5, s5))) (hr0 : Kd.C (Kd.int .u8) w A0 l0.length l0) (hc0 : l0.length ≤ c0) :
  Calls Try.prog 37 #[.slice A0 l0.length c0] w fun e w' => ∃ v0 v1 : Value, e = .returned (.tuple #[.agg #[v0], .agg #[v1]]) ∧ Kd.R k71 71 w' w.heap.size (fun _ => True) v0 (cond sb (cond b L x0) L) ∧ Kd.R k71 71 w' w.heap.size (fun _ => True) v1 (cond sb (cond b M2 x1) M) ∧ Below w.heap.size w w' := by
 obtain ⟨wb0, hwb0⟩ : ∃ W, W = w.alloc (.cells #[.slice none 0 0] 29) := ⟨_, rfl⟩
 have HWB0 := aM hwb0
 obtain ⟨wb1, hwb1⟩ : ∃ W, W = wb0.alloc (.cells #[.slice none 0 0] 29) := ⟨_, rfl⟩
 have HWB1 := aM hwb1
 obtain ⟨b0, b1, hbA⟩ := two (w := w) (.slice none 0 0) (.slice none 0 0) 29
 rw [← hwb0, ← hwb1] at b0 b1 hbA
 have hsA : wb1.heap.size = w.heap.size + 2 := by rw [hwb1, new_size, hwb0, new_size]
 obtain ⟨w0, hw0⟩ : ∃ W, W = wb1.alloc (.cells #[.slice A0 l0.length c0, .int .i64 0, .int .u64 0] 89) := ⟨_, rfl⟩
 have HW0 := aM hw0
 have hI := IsS89.new w wb1 A0 c0 l0 0 0 hbA hr0
 rw [← hw0, hsA] at hI
 have HI0 := aM hI
 have HA0 := aM (show Below w.heap.size w w0 by rw [hw0]; exact below_alloc hbA _)
 have HS0 := aM (show w.heap.size + 3 ≤ w0.heap.size by rw [hw0, new_size, hsA]; exact Nat.le_refl _)
 have Xr0_0 := aM (show Bx w0 (w.heap.size) (.slice none 0 0) 29 by rw [hw0]; exact xblk_alloc b0 _)
 have Xr1_0 := aM (show Bx w0 (w.heap.size + 1) (.slice none 0 0) 29 by rw [hw0]; exact xblk_alloc b1 _)
 clear hw0 hI hsA hbA hr0 hc0 hwb0 b0 hwb1 b1
 go_enter Try.func37, Try.ntmps37
 go_upto_region 2 with (fail)
 rw [← HWB0.out, ← HWB1.out, ← HW0.out]
 go_upto_region 3 with (first | (go_at_call 64; go_loud ((with_reducible refine (spec_l1Cur_treap.calls k1 (w.heap.size + 2) l0 0 0 L a1 s1 w _ HI0.out HA0.out E1.out).mono ?_); rintro e w1 ⟨v_t, rfl, ho, hi, hb, hk⟩; obtain ⟨A_t, c_t, e_t⟩ := Kd.R_slice ho; subst e_t; have Xr0_1 := aM (Bx.cur Xr0_0.out HI0.out hk); have Xr1_1 := aM (Bx.cur Xr1_0.out HI0.out hk); have HI1 := aM hi; have HA1 := aM hb; have HZ0 := aM hk.1; have Rt_1 := aM (Lr.of (lo := w.heap.size) ho HA0.out.size); clear HI0 HA0 Xr0_0 Xr1_0; clear ho hi hb hk)))
 obtain ⟨w2, hw⟩ : ∃ W_, W_ = w1.alloc (.cells #[.slice A_t L.length c_t] 29) := ⟨_, rfl⟩
 rw [← hw]
 obtain ⟨q0, hb⟩ := one (w := w1) (.slice A_t L.length c_t) 29
 rw [← hw] at q0 hb
 have Rt_2 := aM (Lr.below Rt_1.out hb)
 have Xr0_2 := aM (Bx.below Xr0_1.out hb)
 have Xr1_2 := aM (Bx.below Xr1_1.out hb)
 have HI2 := aM (IsS89.below HI1.out hb)
 have HA2 := aM (below_step HA1.out hb)
 have HZ1 := aM hb.size
 clear HI1 HA1 Rt_1 Xr0_1 Xr1_1
 have Xt_2 := aM q0
 have HZZ1 := aM (show w1.heap.size + 1 ≤ w2.heap.size by rw [hw, new_size]; exact Nat.le_refl _)
 clear hw q0 hb
 obtain ⟨w3, hw⟩ : ∃ W_, W_ = w2.drew := ⟨_, rfl⟩
 have HD3 := aM hw
 have Rt_3 := aM (show Lr w3 w.heap.size _ _ by rw [hw]; exact Lr.drew Rt_2.out)
 have Xr0_3 := aM (show Bx w3 _ _ _ by rw [hw]; exact Bx.drew Xr0_2.out)
 have Xr1_3 := aM (show Bx w3 _ _ _ by rw [hw]; exact Bx.drew Xr1_2.out)
 have Xt_3 := aM (show Bx w3 _ _ _ by rw [hw]; exact Bx.drew Xt_2.out)
 have HI3 := aM (show IsS89 w w3 _ _ _ _ by rw [hw]; exact IsS89.drew HI2.out)
 have HA3 := aM (show Below w.heap.size w w3 by rw [hw]; exact HA2.out.drew)
 have HZ2 := aM (show w2.heap.size ≤ w3.heap.size by rw [hw]; exact Nat.le_refl _)
 clear HI2 HA2 Rt_2 Xr0_2 Xr1_2 Xt_2
 clear hw
 refine start_ (n := 13) (S := fun w' => w'.cell? ⟨w1.heap.size, 0, none⟩ = some (.slice A_t L.length c_t)) (ds := []) #[false, false, false, false, false, false, false, false, false, false, false, false, false] (by kernel_rfl) rfl rfl ((HD3.out ▸ Bx.cell Xt_3.out)) (fun hHeld => ?_)
 rw [← HD3.out] at hHeld ⊢
 refine pure_ (i := 1) (N := some 16) (v := ?_) (a' := ?_) #[false, true, false, false, false, false, false, false, false, false, false, false, false] rfl rfl (by kernel_rfl) (fun _ _ _ h => h) (Or.inl ⟨by rfl, ?_⟩) ?_ ?_
 rotate_left
 ·
  intro w'
  go_simp
  with_reducible rfl
 rotate_left
 ·
  simp only [Act.put, zSA, zSB, zSC, i64_w, i32_w]
  rfl
 refine take_ (i := 0) (N := some 15) (v := ?_) (a' := ?_) #[true, true, false, false, false, false, false, false, false, false, false, false, false] rfl rfl (by kernel_rfl) (fun _ _ _ h => h) (Or.inl ⟨by rfl, ?_⟩) hHeld ?_ ?_
 rotate_left
 ·
  intro w' s0
  go_simp
  with_reducible rfl
 rotate_left
 ·
  simp only [Act.put, zSA, zSB, zSC, i64_w, i32_w]
  rfl
 refine join_ (σ := Value × Value × Nat × Nat) 3 #[true, true, true, true, true, true, true, true, true, true, false, false, false] ((fun s_ => [(17, .string key), (18, .tuple #[.agg #[s_.1], .agg #[s_.2.1], .bool sb]), (6, .pointer (some ⟨s_.2.2.1, 0, none⟩)), (7, .pointer (some ⟨s_.2.2.2, 0, none⟩)), (14, .tuple #[.agg #[s_.1], .agg #[s_.2.1], .bool sb]), (19, .agg #[s_.1]), (20, .agg #[s_.2.1]), (21, .bool sb)])) ((fun s_ w' => Below w.heap.size w w' ∧ IsS89 w w' (w.heap.size + 2) l0 a2 s2 ∧ Lr w' w.heap.size (.slice A_t L.length c_t) L ∧ Lr w' w.heap.size s_.1 x0 ∧ Lr w' w.heap.size s_.2.1 x1 ∧ Bx w' w.heap.size (.slice none 0 0) 29 ∧ Bx w' (w.heap.size + 1) (.slice none 0 0) 29 ∧ Bx w' w1.heap.size (.slice A_t L.length c_t) 29 ∧ Bx w' s_.2.2.1 (.slice none 0 0) 29 ∧ Bx w' s_.2.2.2 (.slice none 0 0) 29 ∧ w3.heap.size ≤ s_.2.2.1 ∧ w3.heap.size ≤ s_.2.2.2 ∧ s_.2.2.1 ≠ s_.2.2.2 ∧ w3.heap.size ≤ w'.heap.size)) ?_ ?_
 rotate_left
 ·
  intro hCont
  refine three_ (i := 2) (j := 8) (k := 9) (Ni := some 17) (Nj := some 6) (Nk := some 7) #[true, true, true, false, false, false, false, false, false, false, false, false, false] #[true, true, false, false, false, false, false, false, true, false, false, false, false] #[true, true, false, false, false, false, false, false, false, true, false, false, false] rfl rfl rfl rfl rfl rfl (by kernel_rfl) (by decide) (by decide) (by decide) (fun K hK => ?_) (fun K hK => ?_) (fun K hK => ?_)
  ·
   skip
   refine goes_ Try.func65 (by kernel_rfl) rfl #[.pointer (some ⟨w.heap.size + 2, 0, none⟩)] (by rfl) rfl rfl (by simp only [List.map_toArray, List.map_cons, List.map_nil]; rfl) ?_
   with_reducible refine (spec_l1Cur_treapKey.calls (w.heap.size + 2) l0 a1 s1 key a2 s2 w _ HI3.out HA3.out E2.out).mono ?_
   rintro e u_2 ⟨rfl, hi, hb, hk⟩
   refine ⟨_, rfl, ?_⟩
   have Rt_2 := aM (Lr.cur Rt_3.out HI3.out hk)
   have Xr0_2 := aM (Bx.cur Xr0_3.out HI3.out hk)
   have Xr1_2 := aM (Bx.cur Xr1_3.out HI3.out hk)
   have Xt_2 := aM (Bx.cur Xt_3.out HI3.out hk)
   have HI_2 := aM hi
   have HA_2 := aM hb
   have HJ_2 := aM (hk.1)
   clear hi hb hk
   refine hK.out _ _ (Bx.cell Xt_2.out) (fun hHeld => ?_)
   clear hK K
   refine norm_ (a' := ?_) ?_ ?_
   rotate_left
   ·
    show Act.put _ (some 17) _ = _
    simp only [Act.put, zSA, zSB, zSC, i64_w, i32_w]
    rfl
   refine three_ (i := 3) (j := 8) (k := 9) (Ni := some 18) (Nj := some 6) (Nk := some 7) #[true, true, true, true, false, false, false, false, false, false, false, false, false] #[true, true, true, false, false, false, false, false, true, false, false, false, false] #[true, true, true, false, false, false, false, false, false, true, false, false, false] rfl rfl rfl rfl rfl rfl (by kernel_rfl) (by decide) (by decide) (by decide) (fun K hK => ?_) (fun K hK => ?_) (fun K hK => ?_)
   ·
    skip
    refine goes_ Try.func31 (by kernel_rfl) rfl #[.agg #[.slice A_t L.length c_t], .string key] (by rfl) rfl rfl (by simp only [List.map_toArray, List.map_cons, List.map_nil]; rfl) ?_
    with_reducible refine (spec_SplitTreap.calls k2 A_t c_t L key x0 x1 sb _ (Lr.c Rt_2.out) (Lr.n Rt_2.out) ES.out).mono ?_
    rintro e u_23 ⟨v0_, v1_, rfl, ho, ho1, hb⟩
    refine ⟨_, rfl, ?_⟩
    have hl0_ := Lr.of (lo := w.heap.size) ho HA_2.out.size
    have hl1_ := Lr.of (lo := w.heap.size) ho1 HA_2.out.size
    obtain ⟨A_s0, c_s0, e_⟩ := Lr.slice hl0_
    subst e_
    obtain ⟨A_s1, c_s1, e_⟩ := Lr.slice hl1_
    subst e_
    have Rs0_23 := aM hl0_
    have Rs1_23 := aM hl1_
    have Rt_23 := aM (Lr.below Rt_2.out hb)
    have Xr0_23 := aM (Bx.below Xr0_2.out hb)
    have Xr1_23 := aM (Bx.below Xr1_2.out hb)
    have Xt_23 := aM (Bx.below Xt_2.out hb)
    have HI_23 := aM (IsS89.below HI_2.out hb)
    have HA_23 := aM (below_step HA_2.out hb)
    have HJ_23 := aM (Nat.le_trans HJ_2.out hb.size)
    clear ho ho1 hb hl0_ hl1_
    refine hK.out _ _ (Bx.cell Xt_23.out) (fun hHeld => ?_)
    clear hK K
    refine norm_ (a' := ?_) ?_ ?_
    rotate_left
    ·
     show Act.put _ (some 18) _ = _
     simp only [Act.put, zSA, zSB, zSC, i64_w, i32_w]
     rfl
    refine pure_ (i := 4) (N := some 14) (v := ?_) (a' := ?_) #[true, true, true, true, true, false, false, false, false, false, false, false, false] rfl rfl (by kernel_rfl) (fun _ _ _ h => h) (Or.inl ⟨by rfl, ?_⟩) ?_ ?_
    rotate_left
    ·
     intro w'
     go_simp
     with_reducible rfl
    rotate_left
    ·
     simp only [Act.put, zSA, zSB, zSC, i64_w, i32_w]
     rfl
    refine pure_ (i := 5) (N := some 19) (v := ?_) (a' := ?_) #[true, true, true, true, true, true, false, false, false, false, false, false, false] rfl rfl (by kernel_rfl) (fun _ _ _ h => h) (Or.inl ⟨by rfl, ?_⟩) ?_ ?_
    rotate_left
    ·
     intro w'
     go_simp
     with_reducible rfl
    rotate_left
    ·
     simp only [Act.put, zSA, zSB, zSC, i64_w, i32_w]
     rfl
    refine pure_ (i := 6) (N := some 20) (v := ?_) (a' := ?_) #[true, true, true, true, true, true, true, false, false, false, false, false, false] rfl rfl (by kernel_rfl) (fun _ _ _ h => h) (Or.inl ⟨by rfl, ?_⟩) ?_ ?_
    rotate_left
    ·
     intro w'
     go_simp
     with_reducible rfl
    rotate_left
    ·
     simp only [Act.put, zSA, zSB, zSC, i64_w, i32_w]
     rfl
    refine pure_ (i := 7) (N := some 21) (v := ?_) (a' := ?_) #[true, true, true, true, true, true, true, true, false, false, false, false, false] rfl rfl (by kernel_rfl) (fun _ _ _ h => h) (Or.inl ⟨by rfl, ?_⟩) ?_ ?_
    rotate_left
    ·
     intro w'
     go_simp
     with_reducible rfl
    rotate_left
    ·
     simp only [Act.put, zSA, zSB, zSC, i64_w, i32_w]
     rfl
    refine two_ (i := 8) (j := 9) (Ni := some 6) (Nj := some 7) #[true, true, true, true, true, true, true, true, true, false, false, false, false] #[true, true, true, true, true, true, true, true, false, true, false, false, false] rfl rfl rfl rfl (by kernel_rfl) (by decide) (by decide) (fun K hK => ?_) (fun K hK => ?_)
    ·
     skip
     refine value_ (w1 := ?_) (v := ?_) (by rfl) rfl ?_ ?_
     rotate_left 2
     ·
      go_simp
      constructor
      ·
       rfl
      ·
       rfl
     obtain ⟨u_238, hu_⟩ : ∃ u_, u_ = u_23.alloc (.cells #[.slice none 0 0] 29) := ⟨_, rfl⟩
     rw [← hu_]
     obtain ⟨q0, hb⟩ := one (w := u_23) (.slice none 0 0) 29
     rw [← hu_] at q0 hb
     have Rt_238 := aM (Lr.below Rt_23.out hb)
     have Rs0_238 := aM (Lr.below Rs0_23.out hb)
     have Rs1_238 := aM (Lr.below Rs1_23.out hb)
     have Xr0_238 := aM (Bx.below Xr0_23.out hb)
     have Xr1_238 := aM (Bx.below Xr1_23.out hb)
     have Xt_238 := aM (Bx.below Xt_23.out hb)
     have HI_238 := aM (IsS89.below HI_23.out hb)
     have HA_238 := aM (below_step HA_23.out hb)
     have HJ_238 := aM (Nat.le_trans HJ_23.out hb.size)
     have Xz6_238 := aM q0
     clear hb hu_ q0
     refine hK.out _ _ (Bx.cell Xt_238.out) (fun hHeld => ?_)
     clear hK K
     refine norm_ (a' := ?_) ?_ ?_
     rotate_left
     ·
      show Act.put _ (some 6) _ = _
      simp only [Act.put, zSA, zSB, zSC, i64_w, i32_w]
      rfl
     refine one_ (i := 9) (N := some 7) #[true, true, true, true, true, true, true, true, true, true, false, false, false] rfl rfl (by kernel_rfl) (by decide) (fun K hK => ?_)
     refine value_ (w1 := ?_) (v := ?_) (by rfl) rfl ?_ ?_
     rotate_left 2
     ·
      go_simp
      constructor
      ·
       rfl
      ·
       rfl
     obtain ⟨u_2389, hu_⟩ : ∃ u_, u_ = u_238.alloc (.cells #[.slice none 0 0] 29) := ⟨_, rfl⟩
     rw [← hu_]
     obtain ⟨q0, hb⟩ := one (w := u_238) (.slice none 0 0) 29
     rw [← hu_] at q0 hb
     have Rt_2389 := aM (Lr.below Rt_238.out hb)
     have Rs0_2389 := aM (Lr.below Rs0_238.out hb)
     have Rs1_2389 := aM (Lr.below Rs1_238.out hb)
     have Xr0_2389 := aM (Bx.below Xr0_238.out hb)
     have Xr1_2389 := aM (Bx.below Xr1_238.out hb)
     have Xt_2389 := aM (Bx.below Xt_238.out hb)
     have Xz6_2389 := aM (Bx.below Xz6_238.out hb)
     have HI_2389 := aM (IsS89.below HI_238.out hb)
     have HA_2389 := aM (below_step HA_238.out hb)
     have HJ_2389 := aM (Nat.le_trans HJ_238.out hb.size)
     have Xz7_2389 := aM q0
     clear hb hu_ q0
     refine hK.out _ _ (Bx.cell Xt_2389.out) (fun hHeld => ?_)
     clear hK K
     refine norm_ (a' := ?_) ?_ ?_
     rotate_left
     ·
      show Act.put _ (some 7) _ = _
      simp only [Act.put, zSA, zSB, zSC, i64_w, i32_w]
      rfl
     exact norm_ (by simp only [putAll, Act.put, zSA, zSB, zSC]) (hCont (.slice A_s0 x0.length c_s0, .slice A_s1 x1.length c_s1, u_23.heap.size, u_238.heap.size) _ ⟨HA_2389.out, HI_2389.out, Rt_2389.out, Rs0_2389.out, Rs1_2389.out, Xr0_2389.out, Xr1_2389.out, Xt_2389.out, Xz6_2389.out, Xz7_2389.out, HJ_23.out, HJ_238.out, (Nat.ne_of_lt (blk_lt Xz6_238.out)), HJ_2389.out⟩)
    ·
     skip
     refine value_ (w1 := ?_) (v := ?_) (by rfl) rfl ?_ ?_
     rotate_left 2
     ·
      go_simp
      constructor
      ·
       rfl
      ·
       rfl
     obtain ⟨u_239, hu_⟩ : ∃ u_, u_ = u_23.alloc (.cells #[.slice none 0 0] 29) := ⟨_, rfl⟩
     rw [← hu_]
     obtain ⟨q0, hb⟩ := one (w := u_23) (.slice none 0 0) 29
     rw [← hu_] at q0 hb
     have Rt_239 := aM (Lr.below Rt_23.out hb)
     have Rs0_239 := aM (Lr.below Rs0_23.out hb)
     have Rs1_239 := aM (Lr.below Rs1_23.out hb)
     have Xr0_239 := aM (Bx.below Xr0_23.out hb)
     have Xr1_239 := aM (Bx.below Xr1_23.out hb)
     have Xt_239 := aM (Bx.below Xt_23.out hb)
     have HI_239 := aM (IsS89.below HI_23.out hb)
     have HA_239 := aM (below_step HA_23.out hb)
     have HJ_239 := aM (Nat.le_trans HJ_23.out hb.size)
     have Xz7_239 := aM q0
     clear hb hu_ q0
     refine hK.out _ _ (Bx.cell Xt_239.out) (fun hHeld => ?_)
     clear hK K
     refine norm_ (a' := ?_) ?_ ?_
     rotate_left
     ·
      show Act.put _ (some 7) _ = _
      simp only [Act.put, zSA, zSB, zSC, i64_w, i32_w]
      rfl
     refine one_ (i := 8) (N := some 6) #[true, true, true, true, true, true, true, true, true, true, false, false, false] rfl rfl (by kernel_rfl) (by decide) (fun K hK => ?_)
     refine value_ (w1 := ?_) (v := ?_) (by rfl) rfl ?_ ?_
     rotate_left 2
     ·
      go_simp
      constructor
      ·
       rfl
      ·
       rfl
     obtain ⟨u_2398, hu_⟩ : ∃ u_, u_ = u_239.alloc (.cells #[.slice none 0 0] 29) := ⟨_, rfl⟩
     rw [← hu_]
     obtain ⟨q0, hb⟩ := one (w := u_239) (.slice none 0 0) 29
     rw [← hu_] at q0 hb
     have Rt_2398 := aM (Lr.below Rt_239.out hb)
     have Rs0_2398 := aM (Lr.below Rs0_239.out hb)
     have Rs1_2398 := aM (Lr.below Rs1_239.out hb)
     have Xr0_2398 := aM (Bx.below Xr0_239.out hb)
     have Xr1_2398 := aM (Bx.below Xr1_239.out hb)
     have Xt_2398 := aM (Bx.below Xt_239.out hb)
     have Xz7_2398 := aM (Bx.below Xz7_239.out hb)
     have HI_2398 := aM (IsS89.below HI_239.out hb)
     have HA_2398 := aM (below_step HA_239.out hb)
     have HJ_2398 := aM (Nat.le_trans HJ_239.out hb.size)
     have Xz6_2398 := aM q0
     clear hb hu_ q0
     refine hK.out _ _ (Bx.cell Xt_2398.out) (fun hHeld => ?_)
     clear hK K
     refine norm_ (a' := ?_) ?_ ?_
     rotate_left
     ·
      show Act.put _ (some 6) _ = _
      simp only [Act.put, zSA, zSB, zSC, i64_w, i32_w]
      rfl
     exact norm_ (by simp only [putAll, Act.put, zSA, zSB, zSC]) (hCont (.slice A_s0 x0.length c_s0, .slice A_s1 x1.length c_s1, u_239.heap.size, u_23.heap.size) _ ⟨HA_2398.out, HI_2398.out, Rt_2398.out, Rs0_2398.out, Rs1_2398.out, Xr0_2398.out, Xr1_2398.out, Xt_2398.out, Xz6_2398.out, Xz7_2398.out, HJ_239.out, HJ_23.out, (Ne.symm (Nat.ne_of_lt (blk_lt Xz7_239.out))), HJ_2398.out⟩)
   ·
    skip
    refine value_ (w1 := ?_) (v := ?_) (by rfl) rfl ?_ ?_
    rotate_left 2
    ·
     go_simp
     constructor
     ·
      rfl
     ·
      rfl
    obtain ⟨u_28, hu_⟩ : ∃ u_, u_ = u_2.alloc (.cells #[.slice none 0 0] 29) := ⟨_, rfl⟩
    rw [← hu_]
    obtain ⟨q0, hb⟩ := one (w := u_2) (.slice none 0 0) 29
    rw [← hu_] at q0 hb
    have Rt_28 := aM (Lr.below Rt_2.out hb)
    have Xr0_28 := aM (Bx.below Xr0_2.out hb)
    have Xr1_28 := aM (Bx.below Xr1_2.out hb)
    have Xt_28 := aM (Bx.below Xt_2.out hb)
    have HI_28 := aM (IsS89.below HI_2.out hb)
    have HA_28 := aM (below_step HA_2.out hb)
    have HJ_28 := aM (Nat.le_trans HJ_2.out hb.size)
    have Xz6_28 := aM q0
    clear hb hu_ q0
    refine hK.out _ _ (Bx.cell Xt_28.out) (fun hHeld => ?_)
    clear hK K
    refine norm_ (a' := ?_) ?_ ?_
    rotate_left
    ·
     show Act.put _ (some 6) _ = _
     simp only [Act.put, zSA, zSB, zSC, i64_w, i32_w]
     rfl
    refine two_ (i := 3) (j := 9) (Ni := some 18) (Nj := some 7) #[true, true, true, true, false, false, false, false, true, false, false, false, false] #[true, true, true, false, false, false, false, false, true, true, false, false, false] rfl rfl rfl rfl (by kernel_rfl) (by decide) (by decide) (fun K hK => ?_) (fun K hK => ?_)
    ·
     skip
     refine goes_ Try.func31 (by kernel_rfl) rfl #[.agg #[.slice A_t L.length c_t], .string key] (by rfl) rfl rfl (by simp only [List.map_toArray, List.map_cons, List.map_nil]; rfl) ?_
     with_reducible refine (spec_SplitTreap.calls k2 A_t c_t L key x0 x1 sb _ (Lr.c Rt_28.out) (Lr.n Rt_28.out) ES.out).mono ?_
     rintro e u_283 ⟨v0_, v1_, rfl, ho, ho1, hb⟩
     refine ⟨_, rfl, ?_⟩
     have hl0_ := Lr.of (lo := w.heap.size) ho HA_28.out.size
     have hl1_ := Lr.of (lo := w.heap.size) ho1 HA_28.out.size
     obtain ⟨A_s0, c_s0, e_⟩ := Lr.slice hl0_
     subst e_
     obtain ⟨A_s1, c_s1, e_⟩ := Lr.slice hl1_
     subst e_
     have Rs0_283 := aM hl0_
     have Rs1_283 := aM hl1_
     have Rt_283 := aM (Lr.below Rt_28.out hb)
     have Xr0_283 := aM (Bx.below Xr0_28.out hb)
     have Xr1_283 := aM (Bx.below Xr1_28.out hb)
     have Xt_283 := aM (Bx.below Xt_28.out hb)
     have Xz6_283 := aM (Bx.below Xz6_28.out hb)
     have HI_283 := aM (IsS89.below HI_28.out hb)
     have HA_283 := aM (below_step HA_28.out hb)
     have HJ_283 := aM (Nat.le_trans HJ_28.out hb.size)
     clear ho ho1 hb hl0_ hl1_
     refine hK.out _ _ (Bx.cell Xt_283.out) (fun hHeld => ?_)
     clear hK K
     refine norm_ (a' := ?_) ?_ ?_
     rotate_left
     ·
      show Act.put _ (some 18) _ = _
      simp only [Act.put, zSA, zSB, zSC, i64_w, i32_w]
      rfl
     refine pure_ (i := 4) (N := some 14) (v := ?_) (a' := ?_) #[true, true, true, true, true, false, false, false, true, false, false, false, false] rfl rfl (by kernel_rfl) (fun _ _ _ h => h) (Or.inl ⟨by rfl, ?_⟩) ?_ ?_
     rotate_left
     ·
      intro w'
      go_simp
      with_reducible rfl
     rotate_left
     ·
      simp only [Act.put, zSA, zSB, zSC, i64_w, i32_w]
      rfl
     refine pure_ (i := 5) (N := some 19) (v := ?_) (a' := ?_) #[true, true, true, true, true, true, false, false, true, false, false, false, false] rfl rfl (by kernel_rfl) (fun _ _ _ h => h) (Or.inl ⟨by rfl, ?_⟩) ?_ ?_
     rotate_left
     ·
      intro w'
      go_simp
      with_reducible rfl
     rotate_left
     ·
      simp only [Act.put, zSA, zSB, zSC, i64_w, i32_w]
      rfl
     refine pure_ (i := 6) (N := some 20) (v := ?_) (a' := ?_) #[true, true, true, true, true, true, true, false, true, false, false, false, false] rfl rfl (by kernel_rfl) (fun _ _ _ h => h) (Or.inl ⟨by rfl, ?_⟩) ?_ ?_
     rotate_left
     ·
      intro w'
      go_simp
      with_reducible rfl
     rotate_left
     ·
      simp only [Act.put, zSA, zSB, zSC, i64_w, i32_w]
      rfl
     refine pure_ (i := 7) (N := some 21) (v := ?_) (a' := ?_) #[true, true, true, true, true, true, true, true, true, false, false, false, false] rfl rfl (by kernel_rfl) (fun _ _ _ h => h) (Or.inl ⟨by rfl, ?_⟩) ?_ ?_
     rotate_left
     ·
      intro w'
      go_simp
      with_reducible rfl
     rotate_left
     ·
      simp only [Act.put, zSA, zSB, zSC, i64_w, i32_w]
      rfl
     refine one_ (i := 9) (N := some 7) #[true, true, true, true, true, true, true, true, true, true, false, false, false] rfl rfl (by kernel_rfl) (by decide) (fun K hK => ?_)
     refine value_ (w1 := ?_) (v := ?_) (by rfl) rfl ?_ ?_
     rotate_left 2
     ·
      go_simp
      constructor
      ·
       rfl
      ·
       rfl
     obtain ⟨u_2839, hu_⟩ : ∃ u_, u_ = u_283.alloc (.cells #[.slice none 0 0] 29) := ⟨_, rfl⟩
     rw [← hu_]
     obtain ⟨q0, hb⟩ := one (w := u_283) (.slice none 0 0) 29
     rw [← hu_] at q0 hb
     have Rt_2839 := aM (Lr.below Rt_283.out hb)
     have Rs0_2839 := aM (Lr.below Rs0_283.out hb)
     have Rs1_2839 := aM (Lr.below Rs1_283.out hb)
     have Xr0_2839 := aM (Bx.below Xr0_283.out hb)
     have Xr1_2839 := aM (Bx.below Xr1_283.out hb)
     have Xt_2839 := aM (Bx.below Xt_283.out hb)
     have Xz6_2839 := aM (Bx.below Xz6_283.out hb)
     have HI_2839 := aM (IsS89.below HI_283.out hb)
     have HA_2839 := aM (below_step HA_283.out hb)
     have HJ_2839 := aM (Nat.le_trans HJ_283.out hb.size)
     have Xz7_2839 := aM q0
     clear hb hu_ q0
     refine hK.out _ _ (Bx.cell Xt_2839.out) (fun hHeld => ?_)
     clear hK K
     refine norm_ (a' := ?_) ?_ ?_
     rotate_left
     ·
      show Act.put _ (some 7) _ = _
      simp only [Act.put, zSA, zSB, zSC, i64_w, i32_w]
      rfl
     exact norm_ (by simp only [putAll, Act.put, zSA, zSB, zSC]) (hCont (.slice A_s0 x0.length c_s0, .slice A_s1 x1.length c_s1, u_2.heap.size, u_283.heap.size) _ ⟨HA_2839.out, HI_2839.out, Rt_2839.out, Rs0_2839.out, Rs1_2839.out, Xr0_2839.out, Xr1_2839.out, Xt_2839.out, Xz6_2839.out, Xz7_2839.out, HJ_2.out, HJ_283.out, (Nat.ne_of_lt (blk_lt Xz6_283.out)), HJ_2839.out⟩)
    ·
     skip
     refine value_ (w1 := ?_) (v := ?_) (by rfl) rfl ?_ ?_
     rotate_left 2
     ·
      go_simp
      constructor
      ·
       rfl
      ·
       rfl
     obtain ⟨u_289, hu_⟩ : ∃ u_, u_ = u_28.alloc (.cells #[.slice none 0 0] 29) := ⟨_, rfl⟩
     rw [← hu_]
     obtain ⟨q0, hb⟩ := one (w := u_28) (.slice none 0 0) 29
     rw [← hu_] at q0 hb
     have Rt_289 := aM (Lr.below Rt_28.out hb)
     have Xr0_289 := aM (Bx.below Xr0_28.out hb)
     have Xr1_289 := aM (Bx.below Xr1_28.out hb)
     have Xt_289 := aM (Bx.below Xt_28.out hb)
     have Xz6_289 := aM (Bx.below Xz6_28.out hb)
     have HI_289 := aM (IsS89.below HI_28.out hb)
     have HA_289 := aM (below_step HA_28.out hb)
     have HJ_289 := aM (Nat.le_trans HJ_28.out hb.size)
     have Xz7_289 := aM q0
     clear hb hu_ q0
     refine hK.out _ _ (Bx.cell Xt_289.out) (fun hHeld => ?_)
     clear hK K
     refine norm_ (a' := ?_) ?_ ?_
     rotate_left
     ·
      show Act.put _ (some 7) _ = _
      simp only [Act.put, zSA, zSB, zSC, i64_w, i32_w]
      rfl
     refine one_ (i := 3) (N := some 18) #[true, true, true, true, false, false, false, false, true, true, false, false, false] rfl rfl (by kernel_rfl) (by decide) (fun K hK => ?_)
     refine goes_ Try.func31 (by kernel_rfl) rfl #[.agg #[.slice A_t L.length c_t], .string key] (by rfl) rfl rfl (by simp only [List.map_toArray, List.map_cons, List.map_nil]; rfl) ?_
     with_reducible refine (spec_SplitTreap.calls k2 A_t c_t L key x0 x1 sb _ (Lr.c Rt_289.out) (Lr.n Rt_289.out) ES.out).mono ?_
     rintro e u_2893 ⟨v0_, v1_, rfl, ho, ho1, hb⟩
     refine ⟨_, rfl, ?_⟩
     have hl0_ := Lr.of (lo := w.heap.size) ho HA_289.out.size
     have hl1_ := Lr.of (lo := w.heap.size) ho1 HA_289.out.size
     obtain ⟨A_s0, c_s0, e_⟩ := Lr.slice hl0_
     subst e_
     obtain ⟨A_s1, c_s1, e_⟩ := Lr.slice hl1_
     subst e_
     have Rs0_2893 := aM hl0_
     have Rs1_2893 := aM hl1_
     have Rt_2893 := aM (Lr.below Rt_289.out hb)
     have Xr0_2893 := aM (Bx.below Xr0_289.out hb)
     have Xr1_2893 := aM (Bx.below Xr1_289.out hb)
     have Xt_2893 := aM (Bx.below Xt_289.out hb)
     have Xz6_2893 := aM (Bx.below Xz6_289.out hb)
     have Xz7_2893 := aM (Bx.below Xz7_289.out hb)
     have HI_2893 := aM (IsS89.below HI_289.out hb)
     have HA_2893 := aM (below_step HA_289.out hb)
     have HJ_2893 := aM (Nat.le_trans HJ_289.out hb.size)
     clear ho ho1 hb hl0_ hl1_
     refine hK.out _ _ (Bx.cell Xt_2893.out) (fun hHeld => ?_)
     clear hK K
     refine norm_ (a' := ?_) ?_ ?_
     rotate_left
     ·
      show Act.put _ (some 18) _ = _
      simp only [Act.put, zSA, zSB, zSC, i64_w, i32_w]
      rfl
     refine pure_ (i := 4) (N := some 14) (v := ?_) (a' := ?_) #[true, true, true, true, true, false, false, false, true, true, false, false, false] rfl rfl (by kernel_rfl) (fun _ _ _ h => h) (Or.inl ⟨by rfl, ?_⟩) ?_ ?_
     rotate_left
     ·
      intro w'
      go_simp
      with_reducible rfl
     rotate_left
     ·
      simp only [Act.put, zSA, zSB, zSC, i64_w, i32_w]
      rfl
     refine pure_ (i := 5) (N := some 19) (v := ?_) (a' := ?_) #[true, true, true, true, true, true, false, false, true, true, false, false, false] rfl rfl (by kernel_rfl) (fun _ _ _ h => h) (Or.inl ⟨by rfl, ?_⟩) ?_ ?_
     rotate_left
     ·
      intro w'
      go_simp
      with_reducible rfl
     rotate_left
     ·
      simp only [Act.put, zSA, zSB, zSC, i64_w, i32_w]
      rfl
     refine pure_ (i := 6) (N := some 20) (v := ?_) (a' := ?_) #[true, true, true, true, true, true, true, false, true, true, false, false, false] rfl rfl (by kernel_rfl) (fun _ _ _ h => h) (Or.inl ⟨by rfl, ?_⟩) ?_ ?_
     rotate_left
     ·
      intro w'
      go_simp
      with_reducible rfl
     rotate_left
     ·
      simp only [Act.put, zSA, zSB, zSC, i64_w, i32_w]
      rfl
     refine pure_ (i := 7) (N := some 21) (v := ?_) (a' := ?_) #[true, true, true, true, true, true, true, true, true, true, false, false, false] rfl rfl (by kernel_rfl) (fun _ _ _ h => h) (Or.inl ⟨by rfl, ?_⟩) ?_ ?_
     rotate_left
     ·
      intro w'
      go_simp
      with_reducible rfl
     rotate_left
     ·
      simp only [Act.put, zSA, zSB, zSC, i64_w, i32_w]
      rfl
     exact norm_ (by simp only [putAll, Act.put, zSA, zSB, zSC]) (hCont (.slice A_s0 x0.length c_s0, .slice A_s1 x1.length c_s1, u_2.heap.size, u_28.heap.size) _ ⟨HA_2893.out, HI_2893.out, Rt_2893.out, Rs0_2893.out, Rs1_2893.out, Xr0_2893.out, Xr1_2893.out, Xt_2893.out, Xz6_2893.out, Xz7_2893.out, HJ_2.out, HJ_28.out, (Nat.ne_of_lt (blk_lt Xz6_28.out)), HJ_2893.out⟩)
   ·
    skip
    refine value_ (w1 := ?_) (v := ?_) (by rfl) rfl ?_ ?_
    rotate_left 2
    ·
     go_simp
     constructor
     ·
      rfl
     ·
      rfl
    obtain ⟨u_29, hu_⟩ : ∃ u_, u_ = u_2.alloc (.cells #[.slice none 0 0] 29) := ⟨_, rfl⟩
    rw [← hu_]
    obtain ⟨q0, hb⟩ := one (w := u_2) (.slice none 0 0) 29
    rw [← hu_] at q0 hb
    have Rt_29 := aM (Lr.below Rt_2.out hb)
    have Xr0_29 := aM (Bx.below Xr0_2.out hb)
    have Xr1_29 := aM (Bx.below Xr1_2.out hb)
    have Xt_29 := aM (Bx.below Xt_2.out hb)
    have HI_29 := aM (IsS89.below HI_2.out hb)
    have HA_29 := aM (below_step HA_2.out hb)
    have HJ_29 := aM (Nat.le_trans HJ_2.out hb.size)
    have Xz7_29 := aM q0
    clear hb hu_ q0
    refine hK.out _ _ (Bx.cell Xt_29.out) (fun hHeld => ?_)
    clear hK K
    refine norm_ (a' := ?_) ?_ ?_
    rotate_left
    ·
     show Act.put _ (some 7) _ = _
     simp only [Act.put, zSA, zSB, zSC, i64_w, i32_w]
     rfl
    refine two_ (i := 3) (j := 8) (Ni := some 18) (Nj := some 6) #[true, true, true, true, false, false, false, false, false, true, false, false, false] #[true, true, true, false, false, false, false, false, true, true, false, false, false] rfl rfl rfl rfl (by kernel_rfl) (by decide) (by decide) (fun K hK => ?_) (fun K hK => ?_)
    ·
     skip
     refine goes_ Try.func31 (by kernel_rfl) rfl #[.agg #[.slice A_t L.length c_t], .string key] (by rfl) rfl rfl (by simp only [List.map_toArray, List.map_cons, List.map_nil]; rfl) ?_
     with_reducible refine (spec_SplitTreap.calls k2 A_t c_t L key x0 x1 sb _ (Lr.c Rt_29.out) (Lr.n Rt_29.out) ES.out).mono ?_
     rintro e u_293 ⟨v0_, v1_, rfl, ho, ho1, hb⟩
     refine ⟨_, rfl, ?_⟩
     have hl0_ := Lr.of (lo := w.heap.size) ho HA_29.out.size
     have hl1_ := Lr.of (lo := w.heap.size) ho1 HA_29.out.size
     obtain ⟨A_s0, c_s0, e_⟩ := Lr.slice hl0_
     subst e_
     obtain ⟨A_s1, c_s1, e_⟩ := Lr.slice hl1_
     subst e_
     have Rs0_293 := aM hl0_
     have Rs1_293 := aM hl1_
     have Rt_293 := aM (Lr.below Rt_29.out hb)
     have Xr0_293 := aM (Bx.below Xr0_29.out hb)
     have Xr1_293 := aM (Bx.below Xr1_29.out hb)
     have Xt_293 := aM (Bx.below Xt_29.out hb)
     have Xz7_293 := aM (Bx.below Xz7_29.out hb)
     have HI_293 := aM (IsS89.below HI_29.out hb)
     have HA_293 := aM (below_step HA_29.out hb)
     have HJ_293 := aM (Nat.le_trans HJ_29.out hb.size)
     clear ho ho1 hb hl0_ hl1_
     refine hK.out _ _ (Bx.cell Xt_293.out) (fun hHeld => ?_)
     clear hK K
     refine norm_ (a' := ?_) ?_ ?_
     rotate_left
     ·
      show Act.put _ (some 18) _ = _
      simp only [Act.put, zSA, zSB, zSC, i64_w, i32_w]
      rfl
     refine pure_ (i := 4) (N := some 14) (v := ?_) (a' := ?_) #[true, true, true, true, true, false, false, false, false, true, false, false, false] rfl rfl (by kernel_rfl) (fun _ _ _ h => h) (Or.inl ⟨by rfl, ?_⟩) ?_ ?_
     rotate_left
     ·
      intro w'
      go_simp
      with_reducible rfl
     rotate_left
     ·
      simp only [Act.put, zSA, zSB, zSC, i64_w, i32_w]
      rfl
     refine pure_ (i := 5) (N := some 19) (v := ?_) (a' := ?_) #[true, true, true, true, true, true, false, false, false, true, false, false, false] rfl rfl (by kernel_rfl) (fun _ _ _ h => h) (Or.inl ⟨by rfl, ?_⟩) ?_ ?_
     rotate_left
     ·
      intro w'
      go_simp
      with_reducible rfl
     rotate_left
     ·
      simp only [Act.put, zSA, zSB, zSC, i64_w, i32_w]
      rfl
     refine pure_ (i := 6) (N := some 20) (v := ?_) (a' := ?_) #[true, true, true, true, true, true, true, false, false, true, false, false, false] rfl rfl (by kernel_rfl) (fun _ _ _ h => h) (Or.inl ⟨by rfl, ?_⟩) ?_ ?_
     rotate_left
     ·
      intro w'
      go_simp
      with_reducible rfl
     rotate_left
     ·
      simp only [Act.put, zSA, zSB, zSC, i64_w, i32_w]
      rfl
     refine pure_ (i := 7) (N := some 21) (v := ?_) (a' := ?_) #[true, true, true, true, true, true, true, true, false, true, false, false, false] rfl rfl (by kernel_rfl) (fun _ _ _ h => h) (Or.inl ⟨by rfl, ?_⟩) ?_ ?_
     rotate_left
     ·
      intro w'
      go_simp
      with_reducible rfl
     rotate_left
     ·
      simp only [Act.put, zSA, zSB, zSC, i64_w, i32_w]
      rfl
     refine one_ (i := 8) (N := some 6) #[true, true, true, true, true, true, true, true, true, true, false, false, false] rfl rfl (by kernel_rfl) (by decide) (fun K hK => ?_)
     refine value_ (w1 := ?_) (v := ?_) (by rfl) rfl ?_ ?_
     rotate_left 2
     ·
      go_simp
      constructor
      ·
       rfl
      ·
       rfl
     obtain ⟨u_2938, hu_⟩ : ∃ u_, u_ = u_293.alloc (.cells #[.slice none 0 0] 29) := ⟨_, rfl⟩
     rw [← hu_]
     obtain ⟨q0, hb⟩ := one (w := u_293) (.slice none 0 0) 29
     rw [← hu_] at q0 hb
     have Rt_2938 := aM (Lr.below Rt_293.out hb)
     have Rs0_2938 := aM (Lr.below Rs0_293.out hb)
     have Rs1_2938 := aM (Lr.below Rs1_293.out hb)
     have Xr0_2938 := aM (Bx.below Xr0_293.out hb)
     have Xr1_2938 := aM (Bx.below Xr1_293.out hb)
     have Xt_2938 := aM (Bx.below Xt_293.out hb)
     have Xz7_2938 := aM (Bx.below Xz7_293.out hb)
     have HI_2938 := aM (IsS89.below HI_293.out hb)
     have HA_2938 := aM (below_step HA_293.out hb)
     have HJ_2938 := aM (Nat.le_trans HJ_293.out hb.size)
     have Xz6_2938 := aM q0
     clear hb hu_ q0
     refine hK.out _ _ (Bx.cell Xt_2938.out) (fun hHeld => ?_)
     clear hK K
     refine norm_ (a' := ?_) ?_ ?_
     rotate_left
     ·
      show Act.put _ (some 6) _ = _
      simp only [Act.put, zSA, zSB, zSC, i64_w, i32_w]
      rfl
     exact norm_ (by simp only [putAll, Act.put, zSA, zSB, zSC]) (hCont (.slice A_s0 x0.length c_s0, .slice A_s1 x1.length c_s1, u_293.heap.size, u_2.heap.size) _ ⟨HA_2938.out, HI_2938.out, Rt_2938.out, Rs0_2938.out, Rs1_2938.out, Xr0_2938.out, Xr1_2938.out, Xt_2938.out, Xz6_2938.out, Xz7_2938.out, HJ_293.out, HJ_2.out, (Ne.symm (Nat.ne_of_lt (blk_lt Xz7_293.out))), HJ_2938.out⟩)
    ·
     skip
     refine value_ (w1 := ?_) (v := ?_) (by rfl) rfl ?_ ?_
     rotate_left 2
     ·
      go_simp
      constructor
      ·
       rfl
      ·
       rfl
     obtain ⟨u_298, hu_⟩ : ∃ u_, u_ = u_29.alloc (.cells #[.slice none 0 0] 29) := ⟨_, rfl⟩
     rw [← hu_]
     obtain ⟨q0, hb⟩ := one (w := u_29) (.slice none 0 0) 29
     rw [← hu_] at q0 hb
     have Rt_298 := aM (Lr.below Rt_29.out hb)
     have Xr0_298 := aM (Bx.below Xr0_29.out hb)
     have Xr1_298 := aM (Bx.below Xr1_29.out hb)
     have Xt_298 := aM (Bx.below Xt_29.out hb)
     have Xz7_298 := aM (Bx.below Xz7_29.out hb)
     have HI_298 := aM (IsS89.below HI_29.out hb)
     have HA_298 := aM (below_step HA_29.out hb)
     have HJ_298 := aM (Nat.le_trans HJ_29.out hb.size)
     have Xz6_298 := aM q0
     clear hb hu_ q0
     refine hK.out _ _ (Bx.cell Xt_298.out) (fun hHeld => ?_)
     clear hK K
     refine norm_ (a' := ?_) ?_ ?_
     rotate_left
     ·
      show Act.put _ (some 6) _ = _
      simp only [Act.put, zSA, zSB, zSC, i64_w, i32_w]
      rfl
     refine one_ (i := 3) (N := some 18) #[true, true, true, true, false, false, false, false, true, true, false, false, false] rfl rfl (by kernel_rfl) (by decide) (fun K hK => ?_)
     refine goes_ Try.func31 (by kernel_rfl) rfl #[.agg #[.slice A_t L.length c_t], .string key] (by rfl) rfl rfl (by simp only [List.map_toArray, List.map_cons, List.map_nil]; rfl) ?_
     with_reducible refine (spec_SplitTreap.calls k2 A_t c_t L key x0 x1 sb _ (Lr.c Rt_298.out) (Lr.n Rt_298.out) ES.out).mono ?_
     rintro e u_2983 ⟨v0_, v1_, rfl, ho, ho1, hb⟩
     refine ⟨_, rfl, ?_⟩
     have hl0_ := Lr.of (lo := w.heap.size) ho HA_298.out.size
     have hl1_ := Lr.of (lo := w.heap.size) ho1 HA_298.out.size
     obtain ⟨A_s0, c_s0, e_⟩ := Lr.slice hl0_
     subst e_
     obtain ⟨A_s1, c_s1, e_⟩ := Lr.slice hl1_
     subst e_
     have Rs0_2983 := aM hl0_
     have Rs1_2983 := aM hl1_
     have Rt_2983 := aM (Lr.below Rt_298.out hb)
     have Xr0_2983 := aM (Bx.below Xr0_298.out hb)
     have Xr1_2983 := aM (Bx.below Xr1_298.out hb)
     have Xt_2983 := aM (Bx.below Xt_298.out hb)
     have Xz6_2983 := aM (Bx.below Xz6_298.out hb)
     have Xz7_2983 := aM (Bx.below Xz7_298.out hb)
     have HI_2983 := aM (IsS89.below HI_298.out hb)
     have HA_2983 := aM (below_step HA_298.out hb)
     have HJ_2983 := aM (Nat.le_trans HJ_298.out hb.size)
     clear ho ho1 hb hl0_ hl1_
     refine hK.out _ _ (Bx.cell Xt_2983.out) (fun hHeld => ?_)
     clear hK K
     refine norm_ (a' := ?_) ?_ ?_
     rotate_left
     ·
      show Act.put _ (some 18) _ = _
      simp only [Act.put, zSA, zSB, zSC, i64_w, i32_w]
      rfl
     refine pure_ (i := 4) (N := some 14) (v := ?_) (a' := ?_) #[true, true, true, true, true, false, false, false, true, true, false, false, false] rfl rfl (by kernel_rfl) (fun _ _ _ h => h) (Or.inl ⟨by rfl, ?_⟩) ?_ ?_
     rotate_left
     ·
      intro w'
      go_simp
      with_reducible rfl
     rotate_left
     ·
      simp only [Act.put, zSA, zSB, zSC, i64_w, i32_w]
      rfl
     refine pure_ (i := 5) (N := some 19) (v := ?_) (a' := ?_) #[true, true, true, true, true, true, false, false, true, true, false, false, false] rfl rfl (by kernel_rfl) (fun _ _ _ h => h) (Or.inl ⟨by rfl, ?_⟩) ?_ ?_
     rotate_left
     ·
      intro w'
      go_simp
      with_reducible rfl
     rotate_left
     ·
      simp only [Act.put, zSA, zSB, zSC, i64_w, i32_w]
      rfl
     refine pure_ (i := 6) (N := some 20) (v := ?_) (a' := ?_) #[true, true, true, true, true, true, true, false, true, true, false, false, false] rfl rfl (by kernel_rfl) (fun _ _ _ h => h) (Or.inl ⟨by rfl, ?_⟩) ?_ ?_
     rotate_left
     ·
      intro w'
      go_simp
      with_reducible rfl
     rotate_left
     ·
      simp only [Act.put, zSA, zSB, zSC, i64_w, i32_w]
      rfl
     refine pure_ (i := 7) (N := some 21) (v := ?_) (a' := ?_) #[true, true, true, true, true, true, true, true, true, true, false, false, false] rfl rfl (by kernel_rfl) (fun _ _ _ h => h) (Or.inl ⟨by rfl, ?_⟩) ?_ ?_
     rotate_left
     ·
      intro w'
      go_simp
      with_reducible rfl
     rotate_left
     ·
      simp only [Act.put, zSA, zSB, zSC, i64_w, i32_w]
      rfl
     exact norm_ (by simp only [putAll, Act.put, zSA, zSB, zSC]) (hCont (.slice A_s0 x0.length c_s0, .slice A_s1 x1.length c_s1, u_29.heap.size, u_2.heap.size) _ ⟨HA_2983.out, HI_2983.out, Rt_2983.out, Rs0_2983.out, Rs1_2983.out, Xr0_2983.out, Xr1_2983.out, Xt_2983.out, Xz6_2983.out, Xz7_2983.out, HJ_29.out, HJ_2.out, (Ne.symm (Nat.ne_of_lt (blk_lt Xz7_29.out))), HJ_2983.out⟩)
  ·
   skip
   refine value_ (w1 := ?_) (v := ?_) (by rfl) rfl ?_ ?_
   rotate_left 2
   ·
    go_simp
    constructor
    ·
     rfl
    ·
     rfl
   obtain ⟨u_8, hu_⟩ : ∃ u_, u_ = w3.alloc (.cells #[.slice none 0 0] 29) := ⟨_, rfl⟩
   rw [← hu_]
   obtain ⟨q0, hb⟩ := one (w := w3) (.slice none 0 0) 29
   rw [← hu_] at q0 hb
   have Rt_8 := aM (Lr.below Rt_3.out hb)
   have Xr0_8 := aM (Bx.below Xr0_3.out hb)
   have Xr1_8 := aM (Bx.below Xr1_3.out hb)
   have Xt_8 := aM (Bx.below Xt_3.out hb)
   have HI_8 := aM (IsS89.below HI3.out hb)
   have HA_8 := aM (below_step HA3.out hb)
   have HJ_8 := aM (hb.size)
   have Xz6_8 := aM q0
   clear hb hu_ q0
   refine hK.out _ _ (Bx.cell Xt_8.out) (fun hHeld => ?_)
   clear hK K
   refine norm_ (a' := ?_) ?_ ?_
   rotate_left
   ·
    show Act.put _ (some 6) _ = _
    simp only [Act.put, zSA, zSB, zSC, i64_w, i32_w]
    rfl
   refine two_ (i := 2) (j := 9) (Ni := some 17) (Nj := some 7) #[true, true, true, false, false, false, false, false, true, false, false, false, false] #[true, true, false, false, false, false, false, false, true, true, false, false, false] rfl rfl rfl rfl (by kernel_rfl) (by decide) (by decide) (fun K hK => ?_) (fun K hK => ?_)
   ·
    skip
    refine goes_ Try.func65 (by kernel_rfl) rfl #[.pointer (some ⟨w.heap.size + 2, 0, none⟩)] (by rfl) rfl rfl (by simp only [List.map_toArray, List.map_cons, List.map_nil]; rfl) ?_
    with_reducible refine (spec_l1Cur_treapKey.calls (w.heap.size + 2) l0 a1 s1 key a2 s2 w _ HI_8.out HA_8.out E2.out).mono ?_
    rintro e u_82 ⟨rfl, hi, hb, hk⟩
    refine ⟨_, rfl, ?_⟩
    have Rt_82 := aM (Lr.cur Rt_8.out HI_8.out hk)
    have Xr0_82 := aM (Bx.cur Xr0_8.out HI_8.out hk)
    have Xr1_82 := aM (Bx.cur Xr1_8.out HI_8.out hk)
    have Xt_82 := aM (Bx.cur Xt_8.out HI_8.out hk)
    have Xz6_82 := aM (Bx.cur Xz6_8.out HI_8.out hk)
    have HI_82 := aM hi
    have HA_82 := aM hb
    have HJ_82 := aM (Nat.le_trans HJ_8.out hk.1)
    clear hi hb hk
    refine hK.out _ _ (Bx.cell Xt_82.out) (fun hHeld => ?_)
    clear hK K
    refine norm_ (a' := ?_) ?_ ?_
    rotate_left
    ·
     show Act.put _ (some 17) _ = _
     simp only [Act.put, zSA, zSB, zSC, i64_w, i32_w]
     rfl
    refine two_ (i := 3) (j := 9) (Ni := some 18) (Nj := some 7) #[true, true, true, true, false, false, false, false, true, false, false, false, false] #[true, true, true, false, false, false, false, false, true, true, false, false, false] rfl rfl rfl rfl (by kernel_rfl) (by decide) (by decide) (fun K hK => ?_) (fun K hK => ?_)
    ·
     skip
     refine goes_ Try.func31 (by kernel_rfl) rfl #[.agg #[.slice A_t L.length c_t], .string key] (by rfl) rfl rfl (by simp only [List.map_toArray, List.map_cons, List.map_nil]; rfl) ?_
     with_reducible refine (spec_SplitTreap.calls k2 A_t c_t L key x0 x1 sb _ (Lr.c Rt_82.out) (Lr.n Rt_82.out) ES.out).mono ?_
     rintro e u_823 ⟨v0_, v1_, rfl, ho, ho1, hb⟩
     refine ⟨_, rfl, ?_⟩
     have hl0_ := Lr.of (lo := w.heap.size) ho HA_82.out.size
     have hl1_ := Lr.of (lo := w.heap.size) ho1 HA_82.out.size
     obtain ⟨A_s0, c_s0, e_⟩ := Lr.slice hl0_
     subst e_
     obtain ⟨A_s1, c_s1, e_⟩ := Lr.slice hl1_
     subst e_
     have Rs0_823 := aM hl0_
     have Rs1_823 := aM hl1_
     have Rt_823 := aM (Lr.below Rt_82.out hb)
     have Xr0_823 := aM (Bx.below Xr0_82.out hb)
     have Xr1_823 := aM (Bx.below Xr1_82.out hb)
     have Xt_823 := aM (Bx.below Xt_82.out hb)
     have Xz6_823 := aM (Bx.below Xz6_82.out hb)
     have HI_823 := aM (IsS89.below HI_82.out hb)
     have HA_823 := aM (below_step HA_82.out hb)
     have HJ_823 := aM (Nat.le_trans HJ_82.out hb.size)
     clear ho ho1 hb hl0_ hl1_
     refine hK.out _ _ (Bx.cell Xt_823.out) (fun hHeld => ?_)
     clear hK K
     refine norm_ (a' := ?_) ?_ ?_
     rotate_left
     ·
      show Act.put _ (some 18) _ = _
      simp only [Act.put, zSA, zSB, zSC, i64_w, i32_w]
      rfl
     refine pure_ (i := 4) (N := some 14) (v := ?_) (a' := ?_) #[true, true, true, true, true, false, false, false, true, false, false, false, false] rfl rfl (by kernel_rfl) (fun _ _ _ h => h) (Or.inl ⟨by rfl, ?_⟩) ?_ ?_
     rotate_left
     ·
      intro w'
      go_simp
      with_reducible rfl
     rotate_left
     ·
      simp only [Act.put, zSA, zSB, zSC, i64_w, i32_w]
      rfl
     refine pure_ (i := 5) (N := some 19) (v := ?_) (a' := ?_) #[true, true, true, true, true, true, false, false, true, false, false, false, false] rfl rfl (by kernel_rfl) (fun _ _ _ h => h) (Or.inl ⟨by rfl, ?_⟩) ?_ ?_
     rotate_left
     ·
      intro w'
      go_simp
      with_reducible rfl
     rotate_left
     ·
      simp only [Act.put, zSA, zSB, zSC, i64_w, i32_w]
      rfl
     refine pure_ (i := 6) (N := some 20) (v := ?_) (a' := ?_) #[true, true, true, true, true, true, true, false, true, false, false, false, false] rfl rfl (by kernel_rfl) (fun _ _ _ h => h) (Or.inl ⟨by rfl, ?_⟩) ?_ ?_
     rotate_left
     ·
      intro w'
      go_simp
      with_reducible rfl
     rotate_left
     ·
      simp only [Act.put, zSA, zSB, zSC, i64_w, i32_w]
      rfl
     refine pure_ (i := 7) (N := some 21) (v := ?_) (a' := ?_) #[true, true, true, true, true, true, true, true, true, false, false, false, false] rfl rfl (by kernel_rfl) (fun _ _ _ h => h) (Or.inl ⟨by rfl, ?_⟩) ?_ ?_
     rotate_left
     ·
      intro w'
      go_simp
      with_reducible rfl
     rotate_left
     ·
      simp only [Act.put, zSA, zSB, zSC, i64_w, i32_w]
      rfl
     refine one_ (i := 9) (N := some 7) #[true, true, true, true, true, true, true, true, true, true, false, false, false] rfl rfl (by kernel_rfl) (by decide) (fun K hK => ?_)
     refine value_ (w1 := ?_) (v := ?_) (by rfl) rfl ?_ ?_
     rotate_left 2
     ·
      go_simp
      constructor
      ·
       rfl
      ·
       rfl
     obtain ⟨u_8239, hu_⟩ : ∃ u_, u_ = u_823.alloc (.cells #[.slice none 0 0] 29) := ⟨_, rfl⟩
     rw [← hu_]
     obtain ⟨q0, hb⟩ := one (w := u_823) (.slice none 0 0) 29
     rw [← hu_] at q0 hb
     have Rt_8239 := aM (Lr.below Rt_823.out hb)
     have Rs0_8239 := aM (Lr.below Rs0_823.out hb)
     have Rs1_8239 := aM (Lr.below Rs1_823.out hb)
     have Xr0_8239 := aM (Bx.below Xr0_823.out hb)
     have Xr1_8239 := aM (Bx.below Xr1_823.out hb)
     have Xt_8239 := aM (Bx.below Xt_823.out hb)
     have Xz6_8239 := aM (Bx.below Xz6_823.out hb)
     have HI_8239 := aM (IsS89.below HI_823.out hb)
     have HA_8239 := aM (below_step HA_823.out hb)
     have HJ_8239 := aM (Nat.le_trans HJ_823.out hb.size)
     have Xz7_8239 := aM q0
     clear hb hu_ q0
     refine hK.out _ _ (Bx.cell Xt_8239.out) (fun hHeld => ?_)
     clear hK K
     refine norm_ (a' := ?_) ?_ ?_
     rotate_left
     ·
      show Act.put _ (some 7) _ = _
      simp only [Act.put, zSA, zSB, zSC, i64_w, i32_w]
      rfl
     exact norm_ (by simp only [putAll, Act.put, zSA, zSB, zSC]) (hCont (.slice A_s0 x0.length c_s0, .slice A_s1 x1.length c_s1, w3.heap.size, u_823.heap.size) _ ⟨HA_8239.out, HI_8239.out, Rt_8239.out, Rs0_8239.out, Rs1_8239.out, Xr0_8239.out, Xr1_8239.out, Xt_8239.out, Xz6_8239.out, Xz7_8239.out, (Nat.le_refl _), HJ_823.out, (Nat.ne_of_lt (blk_lt Xz6_823.out)), HJ_8239.out⟩)
    ·
     skip
     refine value_ (w1 := ?_) (v := ?_) (by rfl) rfl ?_ ?_
     rotate_left 2
     ·
      go_simp
      constructor
      ·
       rfl
      ·
       rfl
     obtain ⟨u_829, hu_⟩ : ∃ u_, u_ = u_82.alloc (.cells #[.slice none 0 0] 29) := ⟨_, rfl⟩
     rw [← hu_]
     obtain ⟨q0, hb⟩ := one (w := u_82) (.slice none 0 0) 29
     rw [← hu_] at q0 hb
     have Rt_829 := aM (Lr.below Rt_82.out hb)
     have Xr0_829 := aM (Bx.below Xr0_82.out hb)
     have Xr1_829 := aM (Bx.below Xr1_82.out hb)
     have Xt_829 := aM (Bx.below Xt_82.out hb)
     have Xz6_829 := aM (Bx.below Xz6_82.out hb)
     have HI_829 := aM (IsS89.below HI_82.out hb)
     have HA_829 := aM (below_step HA_82.out hb)
     have HJ_829 := aM (Nat.le_trans HJ_82.out hb.size)
     have Xz7_829 := aM q0
     clear hb hu_ q0
     refine hK.out _ _ (Bx.cell Xt_829.out) (fun hHeld => ?_)
     clear hK K
     refine norm_ (a' := ?_) ?_ ?_
     rotate_left
     ·
      show Act.put _ (some 7) _ = _
      simp only [Act.put, zSA, zSB, zSC, i64_w, i32_w]
      rfl
     refine one_ (i := 3) (N := some 18) #[true, true, true, true, false, false, false, false, true, true, false, false, false] rfl rfl (by kernel_rfl) (by decide) (fun K hK => ?_)
     refine goes_ Try.func31 (by kernel_rfl) rfl #[.agg #[.slice A_t L.length c_t], .string key] (by rfl) rfl rfl (by simp only [List.map_toArray, List.map_cons, List.map_nil]; rfl) ?_
     with_reducible refine (spec_SplitTreap.calls k2 A_t c_t L key x0 x1 sb _ (Lr.c Rt_829.out) (Lr.n Rt_829.out) ES.out).mono ?_
     rintro e u_8293 ⟨v0_, v1_, rfl, ho, ho1, hb⟩
     refine ⟨_, rfl, ?_⟩
     have hl0_ := Lr.of (lo := w.heap.size) ho HA_829.out.size
     have hl1_ := Lr.of (lo := w.heap.size) ho1 HA_829.out.size
     obtain ⟨A_s0, c_s0, e_⟩ := Lr.slice hl0_
     subst e_
     obtain ⟨A_s1, c_s1, e_⟩ := Lr.slice hl1_
     subst e_
     have Rs0_8293 := aM hl0_
     have Rs1_8293 := aM hl1_
     have Rt_8293 := aM (Lr.below Rt_829.out hb)
     have Xr0_8293 := aM (Bx.below Xr0_829.out hb)
     have Xr1_8293 := aM (Bx.below Xr1_829.out hb)
     have Xt_8293 := aM (Bx.below Xt_829.out hb)
     have Xz6_8293 := aM (Bx.below Xz6_829.out hb)
     have Xz7_8293 := aM (Bx.below Xz7_829.out hb)
     have HI_8293 := aM (IsS89.below HI_829.out hb)
     have HA_8293 := aM (below_step HA_829.out hb)
     have HJ_8293 := aM (Nat.le_trans HJ_829.out hb.size)
     clear ho ho1 hb hl0_ hl1_
     refine hK.out _ _ (Bx.cell Xt_8293.out) (fun hHeld => ?_)
     clear hK K
     refine norm_ (a' := ?_) ?_ ?_
     rotate_left
     ·
      show Act.put _ (some 18) _ = _
      simp only [Act.put, zSA, zSB, zSC, i64_w, i32_w]
      rfl
     refine pure_ (i := 4) (N := some 14) (v := ?_) (a' := ?_) #[true, true, true, true, true, false, false, false, true, true, false, false, false] rfl rfl (by kernel_rfl) (fun _ _ _ h => h) (Or.inl ⟨by rfl, ?_⟩) ?_ ?_
     rotate_left
     ·
      intro w'
      go_simp
      with_reducible rfl
     rotate_left
     ·
      simp only [Act.put, zSA, zSB, zSC, i64_w, i32_w]
      rfl
     refine pure_ (i := 5) (N := some 19) (v := ?_) (a' := ?_) #[true, true, true, true, true, true, false, false, true, true, false, false, false] rfl rfl (by kernel_rfl) (fun _ _ _ h => h) (Or.inl ⟨by rfl, ?_⟩) ?_ ?_
     rotate_left
     ·
      intro w'
      go_simp
      with_reducible rfl
     rotate_left
     ·
      simp only [Act.put, zSA, zSB, zSC, i64_w, i32_w]
      rfl
     refine pure_ (i := 6) (N := some 20) (v := ?_) (a' := ?_) #[true, true, true, true, true, true, true, false, true, true, false, false, false] rfl rfl (by kernel_rfl) (fun _ _ _ h => h) (Or.inl ⟨by rfl, ?_⟩) ?_ ?_
     rotate_left
     ·
      intro w'
      go_simp
      with_reducible rfl
     rotate_left
     ·
      simp only [Act.put, zSA, zSB, zSC, i64_w, i32_w]
      rfl
     refine pure_ (i := 7) (N := some 21) (v := ?_) (a' := ?_) #[true, true, true, true, true, true, true, true, true, true, false, false, false] rfl rfl (by kernel_rfl) (fun _ _ _ h => h) (Or.inl ⟨by rfl, ?_⟩) ?_ ?_
     rotate_left
     ·
      intro w'
      go_simp
      with_reducible rfl
     rotate_left
     ·
      simp only [Act.put, zSA, zSB, zSC, i64_w, i32_w]
      rfl
     exact norm_ (by simp only [putAll, Act.put, zSA, zSB, zSC]) (hCont (.slice A_s0 x0.length c_s0, .slice A_s1 x1.length c_s1, w3.heap.size, u_82.heap.size) _ ⟨HA_8293.out, HI_8293.out, Rt_8293.out, Rs0_8293.out, Rs1_8293.out, Xr0_8293.out, Xr1_8293.out, Xt_8293.out, Xz6_8293.out, Xz7_8293.out, (Nat.le_refl _), HJ_82.out, (Nat.ne_of_lt (blk_lt Xz6_82.out)), HJ_8293.out⟩)
   ·
    skip
    refine value_ (w1 := ?_) (v := ?_) (by rfl) rfl ?_ ?_
    rotate_left 2
    ·
     go_simp
     constructor
     ·
      rfl
     ·
      rfl
    obtain ⟨u_89, hu_⟩ : ∃ u_, u_ = u_8.alloc (.cells #[.slice none 0 0] 29) := ⟨_, rfl⟩
    rw [← hu_]
    obtain ⟨q0, hb⟩ := one (w := u_8) (.slice none 0 0) 29
    rw [← hu_] at q0 hb
    have Rt_89 := aM (Lr.below Rt_8.out hb)
    have Xr0_89 := aM (Bx.below Xr0_8.out hb)
    have Xr1_89 := aM (Bx.below Xr1_8.out hb)
    have Xt_89 := aM (Bx.below Xt_8.out hb)
    have Xz6_89 := aM (Bx.below Xz6_8.out hb)
    have HI_89 := aM (IsS89.below HI_8.out hb)
    have HA_89 := aM (below_step HA_8.out hb)
    have HJ_89 := aM (Nat.le_trans HJ_8.out hb.size)
    have Xz7_89 := aM q0
    clear hb hu_ q0
    refine hK.out _ _ (Bx.cell Xt_89.out) (fun hHeld => ?_)
    clear hK K
    refine norm_ (a' := ?_) ?_ ?_
    rotate_left
    ·
     show Act.put _ (some 7) _ = _
     simp only [Act.put, zSA, zSB, zSC, i64_w, i32_w]
     rfl
    refine one_ (i := 2) (N := some 17) #[true, true, true, false, false, false, false, false, true, true, false, false, false] rfl rfl (by kernel_rfl) (by decide) (fun K hK => ?_)
    refine goes_ Try.func65 (by kernel_rfl) rfl #[.pointer (some ⟨w.heap.size + 2, 0, none⟩)] (by rfl) rfl rfl (by simp only [List.map_toArray, List.map_cons, List.map_nil]; rfl) ?_
    with_reducible refine (spec_l1Cur_treapKey.calls (w.heap.size + 2) l0 a1 s1 key a2 s2 w _ HI_89.out HA_89.out E2.out).mono ?_
    rintro e u_892 ⟨rfl, hi, hb, hk⟩
    refine ⟨_, rfl, ?_⟩
    have Rt_892 := aM (Lr.cur Rt_89.out HI_89.out hk)
    have Xr0_892 := aM (Bx.cur Xr0_89.out HI_89.out hk)
    have Xr1_892 := aM (Bx.cur Xr1_89.out HI_89.out hk)
    have Xt_892 := aM (Bx.cur Xt_89.out HI_89.out hk)
    have Xz6_892 := aM (Bx.cur Xz6_89.out HI_89.out hk)
    have Xz7_892 := aM (Bx.cur Xz7_89.out HI_89.out hk)
    have HI_892 := aM hi
    have HA_892 := aM hb
    have HJ_892 := aM (Nat.le_trans HJ_89.out hk.1)
    clear hi hb hk
    refine hK.out _ _ (Bx.cell Xt_892.out) (fun hHeld => ?_)
    clear hK K
    refine norm_ (a' := ?_) ?_ ?_
    rotate_left
    ·
     show Act.put _ (some 17) _ = _
     simp only [Act.put, zSA, zSB, zSC, i64_w, i32_w]
     rfl
    refine one_ (i := 3) (N := some 18) #[true, true, true, true, false, false, false, false, true, true, false, false, false] rfl rfl (by kernel_rfl) (by decide) (fun K hK => ?_)
    refine goes_ Try.func31 (by kernel_rfl) rfl #[.agg #[.slice A_t L.length c_t], .string key] (by rfl) rfl rfl (by simp only [List.map_toArray, List.map_cons, List.map_nil]; rfl) ?_
    with_reducible refine (spec_SplitTreap.calls k2 A_t c_t L key x0 x1 sb _ (Lr.c Rt_892.out) (Lr.n Rt_892.out) ES.out).mono ?_
    rintro e u_8923 ⟨v0_, v1_, rfl, ho, ho1, hb⟩
    refine ⟨_, rfl, ?_⟩
    have hl0_ := Lr.of (lo := w.heap.size) ho HA_892.out.size
    have hl1_ := Lr.of (lo := w.heap.size) ho1 HA_892.out.size
    obtain ⟨A_s0, c_s0, e_⟩ := Lr.slice hl0_
    subst e_
    obtain ⟨A_s1, c_s1, e_⟩ := Lr.slice hl1_
    subst e_
    have Rs0_8923 := aM hl0_
    have Rs1_8923 := aM hl1_
    have Rt_8923 := aM (Lr.below Rt_892.out hb)
    have Xr0_8923 := aM (Bx.below Xr0_892.out hb)
    have Xr1_8923 := aM (Bx.below Xr1_892.out hb)
    have Xt_8923 := aM (Bx.below Xt_892.out hb)
    have Xz6_8923 := aM (Bx.below Xz6_892.out hb)
    have Xz7_8923 := aM (Bx.below Xz7_892.out hb)
    have HI_8923 := aM (IsS89.below HI_892.out hb)
    have HA_8923 := aM (below_step HA_892.out hb)
    have HJ_8923 := aM (Nat.le_trans HJ_892.out hb.size)
    clear ho ho1 hb hl0_ hl1_
    refine hK.out _ _ (Bx.cell Xt_8923.out) (fun hHeld => ?_)
    clear hK K
    refine norm_ (a' := ?_) ?_ ?_
    rotate_left
    ·
     show Act.put _ (some 18) _ = _
     simp only [Act.put, zSA, zSB, zSC, i64_w, i32_w]
     rfl
    refine pure_ (i := 4) (N := some 14) (v := ?_) (a' := ?_) #[true, true, true, true, true, false, false, false, true, true, false, false, false] rfl rfl (by kernel_rfl) (fun _ _ _ h => h) (Or.inl ⟨by rfl, ?_⟩) ?_ ?_
    rotate_left
    ·
     intro w'
     go_simp
     with_reducible rfl
    rotate_left
    ·
     simp only [Act.put, zSA, zSB, zSC, i64_w, i32_w]
     rfl
    refine pure_ (i := 5) (N := some 19) (v := ?_) (a' := ?_) #[true, true, true, true, true, true, false, false, true, true, false, false, false] rfl rfl (by kernel_rfl) (fun _ _ _ h => h) (Or.inl ⟨by rfl, ?_⟩) ?_ ?_
    rotate_left
    ·
     intro w'
     go_simp
     with_reducible rfl
    rotate_left
    ·
     simp only [Act.put, zSA, zSB, zSC, i64_w, i32_w]
     rfl
    refine pure_ (i := 6) (N := some 20) (v := ?_) (a' := ?_) #[true, true, true, true, true, true, true, false, true, true, false, false, false] rfl rfl (by kernel_rfl) (fun _ _ _ h => h) (Or.inl ⟨by rfl, ?_⟩) ?_ ?_
    rotate_left
    ·
     intro w'
     go_simp
     with_reducible rfl
    rotate_left
    ·
     simp only [Act.put, zSA, zSB, zSC, i64_w, i32_w]
     rfl
    refine pure_ (i := 7) (N := some 21) (v := ?_) (a' := ?_) #[true, true, true, true, true, true, true, true, true, true, false, false, false] rfl rfl (by kernel_rfl) (fun _ _ _ h => h) (Or.inl ⟨by rfl, ?_⟩) ?_ ?_
    rotate_left
    ·
     intro w'
     go_simp
     with_reducible rfl
    rotate_left
    ·
     simp only [Act.put, zSA, zSB, zSC, i64_w, i32_w]
     rfl
    exact norm_ (by simp only [putAll, Act.put, zSA, zSB, zSC]) (hCont (.slice A_s0 x0.length c_s0, .slice A_s1 x1.length c_s1, w3.heap.size, u_8.heap.size) _ ⟨HA_8923.out, HI_8923.out, Rt_8923.out, Rs0_8923.out, Rs1_8923.out, Xr0_8923.out, Xr1_8923.out, Xt_8923.out, Xz6_8923.out, Xz7_8923.out, (Nat.le_refl _), HJ_8.out, (Nat.ne_of_lt (blk_lt Xz6_8.out)), HJ_8923.out⟩)
  ·
   skip
   refine value_ (w1 := ?_) (v := ?_) (by rfl) rfl ?_ ?_
   rotate_left 2
   ·
    go_simp
    constructor
    ·
     rfl
    ·
     rfl
   obtain ⟨u_9, hu_⟩ : ∃ u_, u_ = w3.alloc (.cells #[.slice none 0 0] 29) := ⟨_, rfl⟩
   rw [← hu_]
   obtain ⟨q0, hb⟩ := one (w := w3) (.slice none 0 0) 29
   rw [← hu_] at q0 hb
   have Rt_9 := aM (Lr.below Rt_3.out hb)
   have Xr0_9 := aM (Bx.below Xr0_3.out hb)
   have Xr1_9 := aM (Bx.below Xr1_3.out hb)
   have Xt_9 := aM (Bx.below Xt_3.out hb)
   have HI_9 := aM (IsS89.below HI3.out hb)
   have HA_9 := aM (below_step HA3.out hb)
   have HJ_9 := aM (hb.size)
   have Xz7_9 := aM q0
   clear hb hu_ q0
   refine hK.out _ _ (Bx.cell Xt_9.out) (fun hHeld => ?_)
   clear hK K
   refine norm_ (a' := ?_) ?_ ?_
   rotate_left
   ·
    show Act.put _ (some 7) _ = _
    simp only [Act.put, zSA, zSB, zSC, i64_w, i32_w]
    rfl
   refine two_ (i := 2) (j := 8) (Ni := some 17) (Nj := some 6) #[true, true, true, false, false, false, false, false, false, true, false, false, false] #[true, true, false, false, false, false, false, false, true, true, false, false, false] rfl rfl rfl rfl (by kernel_rfl) (by decide) (by decide) (fun K hK => ?_) (fun K hK => ?_)
   ·
    skip
    refine goes_ Try.func65 (by kernel_rfl) rfl #[.pointer (some ⟨w.heap.size + 2, 0, none⟩)] (by rfl) rfl rfl (by simp only [List.map_toArray, List.map_cons, List.map_nil]; rfl) ?_
    with_reducible refine (spec_l1Cur_treapKey.calls (w.heap.size + 2) l0 a1 s1 key a2 s2 w _ HI_9.out HA_9.out E2.out).mono ?_
    rintro e u_92 ⟨rfl, hi, hb, hk⟩
    refine ⟨_, rfl, ?_⟩
    have Rt_92 := aM (Lr.cur Rt_9.out HI_9.out hk)
    have Xr0_92 := aM (Bx.cur Xr0_9.out HI_9.out hk)
    have Xr1_92 := aM (Bx.cur Xr1_9.out HI_9.out hk)
    have Xt_92 := aM (Bx.cur Xt_9.out HI_9.out hk)
    have Xz7_92 := aM (Bx.cur Xz7_9.out HI_9.out hk)
    have HI_92 := aM hi
    have HA_92 := aM hb
    have HJ_92 := aM (Nat.le_trans HJ_9.out hk.1)
    clear hi hb hk
    refine hK.out _ _ (Bx.cell Xt_92.out) (fun hHeld => ?_)
    clear hK K
    refine norm_ (a' := ?_) ?_ ?_
    rotate_left
    ·
     show Act.put _ (some 17) _ = _
     simp only [Act.put, zSA, zSB, zSC, i64_w, i32_w]
     rfl
    refine two_ (i := 3) (j := 8) (Ni := some 18) (Nj := some 6) #[true, true, true, true, false, false, false, false, false, true, false, false, false] #[true, true, true, false, false, false, false, false, true, true, false, false, false] rfl rfl rfl rfl (by kernel_rfl) (by decide) (by decide) (fun K hK => ?_) (fun K hK => ?_)
    ·
     skip
     refine goes_ Try.func31 (by kernel_rfl) rfl #[.agg #[.slice A_t L.length c_t], .string key] (by rfl) rfl rfl (by simp only [List.map_toArray, List.map_cons, List.map_nil]; rfl) ?_
     with_reducible refine (spec_SplitTreap.calls k2 A_t c_t L key x0 x1 sb _ (Lr.c Rt_92.out) (Lr.n Rt_92.out) ES.out).mono ?_
     rintro e u_923 ⟨v0_, v1_, rfl, ho, ho1, hb⟩
     refine ⟨_, rfl, ?_⟩
     have hl0_ := Lr.of (lo := w.heap.size) ho HA_92.out.size
     have hl1_ := Lr.of (lo := w.heap.size) ho1 HA_92.out.size
     obtain ⟨A_s0, c_s0, e_⟩ := Lr.slice hl0_
     subst e_
     obtain ⟨A_s1, c_s1, e_⟩ := Lr.slice hl1_
     subst e_
     have Rs0_923 := aM hl0_
     have Rs1_923 := aM hl1_
     have Rt_923 := aM (Lr.below Rt_92.out hb)
     have Xr0_923 := aM (Bx.below Xr0_92.out hb)
     have Xr1_923 := aM (Bx.below Xr1_92.out hb)
     have Xt_923 := aM (Bx.below Xt_92.out hb)
     have Xz7_923 := aM (Bx.below Xz7_92.out hb)
     have HI_923 := aM (IsS89.below HI_92.out hb)
     have HA_923 := aM (below_step HA_92.out hb)
     have HJ_923 := aM (Nat.le_trans HJ_92.out hb.size)
     clear ho ho1 hb hl0_ hl1_
     refine hK.out _ _ (Bx.cell Xt_923.out) (fun hHeld => ?_)
     clear hK K
     refine norm_ (a' := ?_) ?_ ?_
     rotate_left
     ·
      show Act.put _ (some 18) _ = _
      simp only [Act.put, zSA, zSB, zSC, i64_w, i32_w]
      rfl
     refine pure_ (i := 4) (N := some 14) (v := ?_) (a' := ?_) #[true, true, true, true, true, false, false, false, false, true, false, false, false] rfl rfl (by kernel_rfl) (fun _ _ _ h => h) (Or.inl ⟨by rfl, ?_⟩) ?_ ?_
     rotate_left
     ·
      intro w'
      go_simp
      with_reducible rfl
     rotate_left
     ·
      simp only [Act.put, zSA, zSB, zSC, i64_w, i32_w]
      rfl
     refine pure_ (i := 5) (N := some 19) (v := ?_) (a' := ?_) #[true, true, true, true, true, true, false, false, false, true, false, false, false] rfl rfl (by kernel_rfl) (fun _ _ _ h => h) (Or.inl ⟨by rfl, ?_⟩) ?_ ?_
     rotate_left
     ·
      intro w'
      go_simp
      with_reducible rfl
     rotate_left
     ·
      simp only [Act.put, zSA, zSB, zSC, i64_w, i32_w]
      rfl
     refine pure_ (i := 6) (N := some 20) (v := ?_) (a' := ?_) #[true, true, true, true, true, true, true, false, false, true, false, false, false] rfl rfl (by kernel_rfl) (fun _ _ _ h => h) (Or.inl ⟨by rfl, ?_⟩) ?_ ?_
     rotate_left
     ·
      intro w'
      go_simp
      with_reducible rfl
     rotate_left
     ·
      simp only [Act.put, zSA, zSB, zSC, i64_w, i32_w]
      rfl
     refine pure_ (i := 7) (N := some 21) (v := ?_) (a' := ?_) #[true, true, true, true, true, true, true, true, false, true, false, false, false] rfl rfl (by kernel_rfl) (fun _ _ _ h => h) (Or.inl ⟨by rfl, ?_⟩) ?_ ?_
     rotate_left
     ·
      intro w'
      go_simp
      with_reducible rfl
     rotate_left
     ·
      simp only [Act.put, zSA, zSB, zSC, i64_w, i32_w]
      rfl
     refine one_ (i := 8) (N := some 6) #[true, true, true, true, true, true, true, true, true, true, false, false, false] rfl rfl (by kernel_rfl) (by decide) (fun K hK => ?_)
     refine value_ (w1 := ?_) (v := ?_) (by rfl) rfl ?_ ?_
     rotate_left 2
     ·
      go_simp
      constructor
      ·
       rfl
      ·
       rfl
     obtain ⟨u_9238, hu_⟩ : ∃ u_, u_ = u_923.alloc (.cells #[.slice none 0 0] 29) := ⟨_, rfl⟩
     rw [← hu_]
     obtain ⟨q0, hb⟩ := one (w := u_923) (.slice none 0 0) 29
     rw [← hu_] at q0 hb
     have Rt_9238 := aM (Lr.below Rt_923.out hb)
     have Rs0_9238 := aM (Lr.below Rs0_923.out hb)
     have Rs1_9238 := aM (Lr.below Rs1_923.out hb)
     have Xr0_9238 := aM (Bx.below Xr0_923.out hb)
     have Xr1_9238 := aM (Bx.below Xr1_923.out hb)
     have Xt_9238 := aM (Bx.below Xt_923.out hb)
     have Xz7_9238 := aM (Bx.below Xz7_923.out hb)
     have HI_9238 := aM (IsS89.below HI_923.out hb)
     have HA_9238 := aM (below_step HA_923.out hb)
     have HJ_9238 := aM (Nat.le_trans HJ_923.out hb.size)
     have Xz6_9238 := aM q0
     clear hb hu_ q0
     refine hK.out _ _ (Bx.cell Xt_9238.out) (fun hHeld => ?_)
     clear hK K
     refine norm_ (a' := ?_) ?_ ?_
     rotate_left
     ·
      show Act.put _ (some 6) _ = _
      simp only [Act.put, zSA, zSB, zSC, i64_w, i32_w]
      rfl
     exact norm_ (by simp only [putAll, Act.put, zSA, zSB, zSC]) (hCont (.slice A_s0 x0.length c_s0, .slice A_s1 x1.length c_s1, u_923.heap.size, w3.heap.size) _ ⟨HA_9238.out, HI_9238.out, Rt_9238.out, Rs0_9238.out, Rs1_9238.out, Xr0_9238.out, Xr1_9238.out, Xt_9238.out, Xz6_9238.out, Xz7_9238.out, HJ_923.out, (Nat.le_refl _), (Ne.symm (Nat.ne_of_lt (blk_lt Xz7_923.out))), HJ_9238.out⟩)
    ·
     skip
     refine value_ (w1 := ?_) (v := ?_) (by rfl) rfl ?_ ?_
     rotate_left 2
     ·
      go_simp
      constructor
      ·
       rfl
      ·
       rfl
     obtain ⟨u_928, hu_⟩ : ∃ u_, u_ = u_92.alloc (.cells #[.slice none 0 0] 29) := ⟨_, rfl⟩
     rw [← hu_]
     obtain ⟨q0, hb⟩ := one (w := u_92) (.slice none 0 0) 29
     rw [← hu_] at q0 hb
     have Rt_928 := aM (Lr.below Rt_92.out hb)
     have Xr0_928 := aM (Bx.below Xr0_92.out hb)
     have Xr1_928 := aM (Bx.below Xr1_92.out hb)
     have Xt_928 := aM (Bx.below Xt_92.out hb)
     have Xz7_928 := aM (Bx.below Xz7_92.out hb)
     have HI_928 := aM (IsS89.below HI_92.out hb)
     have HA_928 := aM (below_step HA_92.out hb)
     have HJ_928 := aM (Nat.le_trans HJ_92.out hb.size)
     have Xz6_928 := aM q0
     clear hb hu_ q0
     refine hK.out _ _ (Bx.cell Xt_928.out) (fun hHeld => ?_)
     clear hK K
     refine norm_ (a' := ?_) ?_ ?_
     rotate_left
     ·
      show Act.put _ (some 6) _ = _
      simp only [Act.put, zSA, zSB, zSC, i64_w, i32_w]
      rfl
     refine one_ (i := 3) (N := some 18) #[true, true, true, true, false, false, false, false, true, true, false, false, false] rfl rfl (by kernel_rfl) (by decide) (fun K hK => ?_)
     refine goes_ Try.func31 (by kernel_rfl) rfl #[.agg #[.slice A_t L.length c_t], .string key] (by rfl) rfl rfl (by simp only [List.map_toArray, List.map_cons, List.map_nil]; rfl) ?_
     with_reducible refine (spec_SplitTreap.calls k2 A_t c_t L key x0 x1 sb _ (Lr.c Rt_928.out) (Lr.n Rt_928.out) ES.out).mono ?_
     rintro e u_9283 ⟨v0_, v1_, rfl, ho, ho1, hb⟩
     refine ⟨_, rfl, ?_⟩
     have hl0_ := Lr.of (lo := w.heap.size) ho HA_928.out.size
     have hl1_ := Lr.of (lo := w.heap.size) ho1 HA_928.out.size
     obtain ⟨A_s0, c_s0, e_⟩ := Lr.slice hl0_
     subst e_
     obtain ⟨A_s1, c_s1, e_⟩ := Lr.slice hl1_
     subst e_
     have Rs0_9283 := aM hl0_
     have Rs1_9283 := aM hl1_
     have Rt_9283 := aM (Lr.below Rt_928.out hb)
     have Xr0_9283 := aM (Bx.below Xr0_928.out hb)
     have Xr1_9283 := aM (Bx.below Xr1_928.out hb)
     have Xt_9283 := aM (Bx.below Xt_928.out hb)
     have Xz6_9283 := aM (Bx.below Xz6_928.out hb)
     have Xz7_9283 := aM (Bx.below Xz7_928.out hb)
     have HI_9283 := aM (IsS89.below HI_928.out hb)
     have HA_9283 := aM (below_step HA_928.out hb)
     have HJ_9283 := aM (Nat.le_trans HJ_928.out hb.size)
     clear ho ho1 hb hl0_ hl1_
     refine hK.out _ _ (Bx.cell Xt_9283.out) (fun hHeld => ?_)
     clear hK K
     refine norm_ (a' := ?_) ?_ ?_
     rotate_left
     ·
      show Act.put _ (some 18) _ = _
      simp only [Act.put, zSA, zSB, zSC, i64_w, i32_w]
      rfl
     refine pure_ (i := 4) (N := some 14) (v := ?_) (a' := ?_) #[true, true, true, true, true, false, false, false, true, true, false, false, false] rfl rfl (by kernel_rfl) (fun _ _ _ h => h) (Or.inl ⟨by rfl, ?_⟩) ?_ ?_
     rotate_left
     ·
      intro w'
      go_simp
      with_reducible rfl
     rotate_left
     ·
      simp only [Act.put, zSA, zSB, zSC, i64_w, i32_w]
      rfl
     refine pure_ (i := 5) (N := some 19) (v := ?_) (a' := ?_) #[true, true, true, true, true, true, false, false, true, true, false, false, false] rfl rfl (by kernel_rfl) (fun _ _ _ h => h) (Or.inl ⟨by rfl, ?_⟩) ?_ ?_
     rotate_left
     ·
      intro w'
      go_simp
      with_reducible rfl
     rotate_left
     ·
      simp only [Act.put, zSA, zSB, zSC, i64_w, i32_w]
      rfl
     refine pure_ (i := 6) (N := some 20) (v := ?_) (a' := ?_) #[true, true, true, true, true, true, true, false, true, true, false, false, false] rfl rfl (by kernel_rfl) (fun _ _ _ h => h) (Or.inl ⟨by rfl, ?_⟩) ?_ ?_
     rotate_left
     ·
      intro w'
      go_simp
      with_reducible rfl
     rotate_left
     ·
      simp only [Act.put, zSA, zSB, zSC, i64_w, i32_w]
      rfl
     refine pure_ (i := 7) (N := some 21) (v := ?_) (a' := ?_) #[true, true, true, true, true, true, true, true, true, true, false, false, false] rfl rfl (by kernel_rfl) (fun _ _ _ h => h) (Or.inl ⟨by rfl, ?_⟩) ?_ ?_
     rotate_left
     ·
      intro w'
      go_simp
      with_reducible rfl
     rotate_left
     ·
      simp only [Act.put, zSA, zSB, zSC, i64_w, i32_w]
      rfl
     exact norm_ (by simp only [putAll, Act.put, zSA, zSB, zSC]) (hCont (.slice A_s0 x0.length c_s0, .slice A_s1 x1.length c_s1, u_92.heap.size, w3.heap.size) _ ⟨HA_9283.out, HI_9283.out, Rt_9283.out, Rs0_9283.out, Rs1_9283.out, Xr0_9283.out, Xr1_9283.out, Xt_9283.out, Xz6_9283.out, Xz7_9283.out, HJ_92.out, (Nat.le_refl _), (Ne.symm (Nat.ne_of_lt (blk_lt Xz7_92.out))), HJ_9283.out⟩)
   ·
    skip
    refine value_ (w1 := ?_) (v := ?_) (by rfl) rfl ?_ ?_
    rotate_left 2
    ·
     go_simp
     constructor
     ·
      rfl
     ·
      rfl
    obtain ⟨u_98, hu_⟩ : ∃ u_, u_ = u_9.alloc (.cells #[.slice none 0 0] 29) := ⟨_, rfl⟩
    rw [← hu_]
    obtain ⟨q0, hb⟩ := one (w := u_9) (.slice none 0 0) 29
    rw [← hu_] at q0 hb
    have Rt_98 := aM (Lr.below Rt_9.out hb)
    have Xr0_98 := aM (Bx.below Xr0_9.out hb)
    have Xr1_98 := aM (Bx.below Xr1_9.out hb)
    have Xt_98 := aM (Bx.below Xt_9.out hb)
    have Xz7_98 := aM (Bx.below Xz7_9.out hb)
    have HI_98 := aM (IsS89.below HI_9.out hb)
    have HA_98 := aM (below_step HA_9.out hb)
    have HJ_98 := aM (Nat.le_trans HJ_9.out hb.size)
    have Xz6_98 := aM q0
    clear hb hu_ q0
    refine hK.out _ _ (Bx.cell Xt_98.out) (fun hHeld => ?_)
    clear hK K
    refine norm_ (a' := ?_) ?_ ?_
    rotate_left
    ·
     show Act.put _ (some 6) _ = _
     simp only [Act.put, zSA, zSB, zSC, i64_w, i32_w]
     rfl
    refine one_ (i := 2) (N := some 17) #[true, true, true, false, false, false, false, false, true, true, false, false, false] rfl rfl (by kernel_rfl) (by decide) (fun K hK => ?_)
    refine goes_ Try.func65 (by kernel_rfl) rfl #[.pointer (some ⟨w.heap.size + 2, 0, none⟩)] (by rfl) rfl rfl (by simp only [List.map_toArray, List.map_cons, List.map_nil]; rfl) ?_
    with_reducible refine (spec_l1Cur_treapKey.calls (w.heap.size + 2) l0 a1 s1 key a2 s2 w _ HI_98.out HA_98.out E2.out).mono ?_
    rintro e u_982 ⟨rfl, hi, hb, hk⟩
    refine ⟨_, rfl, ?_⟩
    have Rt_982 := aM (Lr.cur Rt_98.out HI_98.out hk)
    have Xr0_982 := aM (Bx.cur Xr0_98.out HI_98.out hk)
    have Xr1_982 := aM (Bx.cur Xr1_98.out HI_98.out hk)
    have Xt_982 := aM (Bx.cur Xt_98.out HI_98.out hk)
    have Xz6_982 := aM (Bx.cur Xz6_98.out HI_98.out hk)
    have Xz7_982 := aM (Bx.cur Xz7_98.out HI_98.out hk)
    have HI_982 := aM hi
    have HA_982 := aM hb
    have HJ_982 := aM (Nat.le_trans HJ_98.out hk.1)
    clear hi hb hk
    refine hK.out _ _ (Bx.cell Xt_982.out) (fun hHeld => ?_)
    clear hK K
    refine norm_ (a' := ?_) ?_ ?_
    rotate_left
    ·
     show Act.put _ (some 17) _ = _
     simp only [Act.put, zSA, zSB, zSC, i64_w, i32_w]
     rfl
    refine one_ (i := 3) (N := some 18) #[true, true, true, true, false, false, false, false, true, true, false, false, false] rfl rfl (by kernel_rfl) (by decide) (fun K hK => ?_)
    refine goes_ Try.func31 (by kernel_rfl) rfl #[.agg #[.slice A_t L.length c_t], .string key] (by rfl) rfl rfl (by simp only [List.map_toArray, List.map_cons, List.map_nil]; rfl) ?_
    with_reducible refine (spec_SplitTreap.calls k2 A_t c_t L key x0 x1 sb _ (Lr.c Rt_982.out) (Lr.n Rt_982.out) ES.out).mono ?_
    rintro e u_9823 ⟨v0_, v1_, rfl, ho, ho1, hb⟩
    refine ⟨_, rfl, ?_⟩
    have hl0_ := Lr.of (lo := w.heap.size) ho HA_982.out.size
    have hl1_ := Lr.of (lo := w.heap.size) ho1 HA_982.out.size
    obtain ⟨A_s0, c_s0, e_⟩ := Lr.slice hl0_
    subst e_
    obtain ⟨A_s1, c_s1, e_⟩ := Lr.slice hl1_
    subst e_
    have Rs0_9823 := aM hl0_
    have Rs1_9823 := aM hl1_
    have Rt_9823 := aM (Lr.below Rt_982.out hb)
    have Xr0_9823 := aM (Bx.below Xr0_982.out hb)
    have Xr1_9823 := aM (Bx.below Xr1_982.out hb)
    have Xt_9823 := aM (Bx.below Xt_982.out hb)
    have Xz6_9823 := aM (Bx.below Xz6_982.out hb)
    have Xz7_9823 := aM (Bx.below Xz7_982.out hb)
    have HI_9823 := aM (IsS89.below HI_982.out hb)
    have HA_9823 := aM (below_step HA_982.out hb)
    have HJ_9823 := aM (Nat.le_trans HJ_982.out hb.size)
    clear ho ho1 hb hl0_ hl1_
    refine hK.out _ _ (Bx.cell Xt_9823.out) (fun hHeld => ?_)
    clear hK K
    refine norm_ (a' := ?_) ?_ ?_
    rotate_left
    ·
     show Act.put _ (some 18) _ = _
     simp only [Act.put, zSA, zSB, zSC, i64_w, i32_w]
     rfl
    refine pure_ (i := 4) (N := some 14) (v := ?_) (a' := ?_) #[true, true, true, true, true, false, false, false, true, true, false, false, false] rfl rfl (by kernel_rfl) (fun _ _ _ h => h) (Or.inl ⟨by rfl, ?_⟩) ?_ ?_
    rotate_left
    ·
     intro w'
     go_simp
     with_reducible rfl
    rotate_left
    ·
     simp only [Act.put, zSA, zSB, zSC, i64_w, i32_w]
     rfl
    refine pure_ (i := 5) (N := some 19) (v := ?_) (a' := ?_) #[true, true, true, true, true, true, false, false, true, true, false, false, false] rfl rfl (by kernel_rfl) (fun _ _ _ h => h) (Or.inl ⟨by rfl, ?_⟩) ?_ ?_
    rotate_left
    ·
     intro w'
     go_simp
     with_reducible rfl
    rotate_left
    ·
     simp only [Act.put, zSA, zSB, zSC, i64_w, i32_w]
     rfl
    refine pure_ (i := 6) (N := some 20) (v := ?_) (a' := ?_) #[true, true, true, true, true, true, true, false, true, true, false, false, false] rfl rfl (by kernel_rfl) (fun _ _ _ h => h) (Or.inl ⟨by rfl, ?_⟩) ?_ ?_
    rotate_left
    ·
     intro w'
     go_simp
     with_reducible rfl
    rotate_left
    ·
     simp only [Act.put, zSA, zSB, zSC, i64_w, i32_w]
     rfl
    refine pure_ (i := 7) (N := some 21) (v := ?_) (a' := ?_) #[true, true, true, true, true, true, true, true, true, true, false, false, false] rfl rfl (by kernel_rfl) (fun _ _ _ h => h) (Or.inl ⟨by rfl, ?_⟩) ?_ ?_
    rotate_left
    ·
     intro w'
     go_simp
     with_reducible rfl
    rotate_left
    ·
     simp only [Act.put, zSA, zSB, zSC, i64_w, i32_w]
     rfl
    exact norm_ (by simp only [putAll, Act.put, zSA, zSB, zSC]) (hCont (.slice A_s0 x0.length c_s0, .slice A_s1 x1.length c_s1, u_9.heap.size, w3.heap.size) _ ⟨HA_9823.out, HI_9823.out, Rt_9823.out, Rs0_9823.out, Rs1_9823.out, Xr0_9823.out, Xr1_9823.out, Xt_9823.out, Xz6_9823.out, Xz7_9823.out, HJ_9.out, (Nat.le_refl _), (Ne.symm (Nat.ne_of_lt (blk_lt Xz7_9.out))), HJ_9823.out⟩)
 rintro ⟨va_, vb_, z6, z7⟩ w4 ⟨hA_, hI_, hR_, h0_, h1_, hX0_, hX1_, hT_, hz6_, hz7_, hs6_, hs7_, hne_, hs_⟩
 clear HI3 HA3 Rt_3 Xr0_3 Xr1_3 Xt_3
 obtain ⟨A_s0, c_s0, e_⟩ := Lr.slice (show Lr w4 w.heap.size va_ x0 from h0_)
 subst e_
 obtain ⟨A_s1, c_s1, e_⟩ := Lr.slice (show Lr w4 w.heap.size vb_ x1 from h1_)
 subst e_
 have HA4 := aM hA_
 have HI4 := aM hI_
 have Rt_4 := aM hR_
 have Rs0_4 := aM (show Lr w4 w.heap.size (.slice A_s0 x0.length c_s0) x0 from h0_)
 have Rs1_4 := aM (show Lr w4 w.heap.size (.slice A_s1 x1.length c_s1) x1 from h1_)
 have Xr0_4 := aM hX0_
 have Xr1_4 := aM hX1_
 have Xt_4 := aM hT_
 have Xz6_4 := aM (show Bx w4 z6 (.slice none 0 0) 29 from hz6_)
 have Xz7_4 := aM (show Bx w4 z7 (.slice none 0 0) 29 from hz7_)
 have HS6 := aM (show w3.heap.size ≤ z6 from hs6_)
 have HS7 := aM (show w3.heap.size ≤ z7 from hs7_)
 have HNE := aM (show z6 ≠ z7 from hne_)
 have HZ3 := aM (show w3.heap.size ≤ w4.heap.size from hs_)
 have hHeld := Bx.cell hT_
 clear hA_ hI_ hR_ h0_ h1_ hX0_ hX1_ hT_ hz6_ hz7_ hs6_ hs7_ hne_ hs_
 refine norm_ (a' := ?_) ?_ ?_
 rotate_left
 ·
  simp only [putAll, Act.put, zSA, zSB, zSC]
  rfl
 refine one_ (i := 10) (N := none) #[true, true, true, true, true, true, true, true, true, true, true, false, false] rfl rfl (by kernel_rfl) (by decide) (fun K hK => ?_)
 have hz0_ := Bx.cell Xz6_4.out
 have hzf_ := blk_frozen Xz6_4.out 0
 refine skip_ (w1 := ?_) (by rfl) rfl ?_ ?_
 rotate_left
 ·
  go_simp
  rfl
 obtain ⟨w5, hw⟩ : ∃ W_, W_ = w4.setCell ⟨z6, 0, none⟩ (.slice A_s0 x0.length c_s0) := ⟨_, rfl⟩
 rw [← hw]
 have hz_ := Xz6_4.out
 have Rt_5 := aM (show Lr w5 w.heap.size _ _ by rw [hw]; exact Lr.set Rt_4.out hz_ _)
 have Rs0_5 := aM (show Lr w5 w.heap.size _ _ by rw [hw]; exact Lr.set Rs0_4.out hz_ _)
 have Rs1_5 := aM (show Lr w5 w.heap.size _ _ by rw [hw]; exact Lr.set Rs1_4.out hz_ _)
 have Xr0_5 := aM (show Bx w5 _ _ _ by rw [hw]; exact Bx.set Xr0_4.out (by have := HZZ1.out; have := HS6.out; have := HS7.out; have := HNE.out; have := HS0.out; have := HZ0.out; have := HZ1.out; have := HZ2.out; omega) _)
 have Xr1_5 := aM (show Bx w5 _ _ _ by rw [hw]; exact Bx.set Xr1_4.out (by have := HZZ1.out; have := HS6.out; have := HS7.out; have := HNE.out; have := HS0.out; have := HZ0.out; have := HZ1.out; have := HZ2.out; omega) _)
 have Xt_5 := aM (show Bx w5 _ _ _ by rw [hw]; exact Bx.set Xt_4.out (by have := HZZ1.out; have := HS6.out; have := HS7.out; have := HNE.out; have := HS0.out; have := HZ0.out; have := HZ1.out; have := HZ2.out; omega) _)
 have Xz6_5 := aM (show Bx w5 _ _ _ by rw [hw]; exact Bx.put hz_ _)
 have Xz7_5 := aM (show Bx w5 _ _ _ by rw [hw]; exact Bx.set Xz7_4.out (by have := HZZ1.out; have := HS6.out; have := HS7.out; have := HNE.out; have := HS0.out; have := HZ0.out; have := HZ1.out; have := HZ2.out; omega) _)
 have HI5 := aM (show IsS89 w w5 _ _ _ _ by rw [hw]; exact IsS89.far HI4.out (IsS89.ne_blk HI4.out hz_ (by decide)) _)
 have HA5 := aM (show Below w.heap.size w w5 by rw [hw]; exact HA4.out.setCell (p := ⟨z6, 0, none⟩) (show w.heap.size ≤ z6 from by have := HZZ1.out; have := HS6.out; have := HS7.out; have := HNE.out; have := HS0.out; have := HZ0.out; have := HZ1.out; have := HZ2.out; omega) _)
 have HZ4 := aM (show w4.heap.size ≤ w5.heap.size by rw [hw]; simp [World.setCell])
 clear hz0_ hzf_ hz_ hw HI4 HA4 Rt_4 Rs0_4 Rs1_4 Xr0_4 Xr1_4 Xt_4 Xz6_4 Xz7_4
 refine hK.out _ _ (Bx.cell Xt_5.out) (fun hHeld => ?_)
 clear hK K
 refine one_ (i := 11) (N := none) #[true, true, true, true, true, true, true, true, true, true, true, true, false] rfl rfl (by kernel_rfl) (by decide) (fun K hK => ?_)
 have hz0_ := Bx.cell Xz7_5.out
 have hzf_ := blk_frozen Xz7_5.out 0
 refine skip_ (w1 := ?_) (by rfl) rfl ?_ ?_
 rotate_left
 ·
  go_simp
  rfl
 obtain ⟨w6, hw⟩ : ∃ W_, W_ = w5.setCell ⟨z7, 0, none⟩ (.slice A_s1 x1.length c_s1) := ⟨_, rfl⟩
 rw [← hw]
 have hz_ := Xz7_5.out
 have Rt_6 := aM (show Lr w6 w.heap.size _ _ by rw [hw]; exact Lr.set Rt_5.out hz_ _)
 have Rs0_6 := aM (show Lr w6 w.heap.size _ _ by rw [hw]; exact Lr.set Rs0_5.out hz_ _)
 have Rs1_6 := aM (show Lr w6 w.heap.size _ _ by rw [hw]; exact Lr.set Rs1_5.out hz_ _)
 have Xr0_6 := aM (show Bx w6 _ _ _ by rw [hw]; exact Bx.set Xr0_5.out (by have := HZZ1.out; have := HS6.out; have := HS7.out; have := HNE.out; have := HS0.out; have := HZ0.out; have := HZ1.out; have := HZ2.out; omega) _)
 have Xr1_6 := aM (show Bx w6 _ _ _ by rw [hw]; exact Bx.set Xr1_5.out (by have := HZZ1.out; have := HS6.out; have := HS7.out; have := HNE.out; have := HS0.out; have := HZ0.out; have := HZ1.out; have := HZ2.out; omega) _)
 have Xt_6 := aM (show Bx w6 _ _ _ by rw [hw]; exact Bx.set Xt_5.out (by have := HZZ1.out; have := HS6.out; have := HS7.out; have := HNE.out; have := HS0.out; have := HZ0.out; have := HZ1.out; have := HZ2.out; omega) _)
 have Xz6_6 := aM (show Bx w6 _ _ _ by rw [hw]; exact Bx.set Xz6_5.out (by have := HZZ1.out; have := HS6.out; have := HS7.out; have := HNE.out; have := HS0.out; have := HZ0.out; have := HZ1.out; have := HZ2.out; omega) _)
 have Xz7_6 := aM (show Bx w6 _ _ _ by rw [hw]; exact Bx.put hz_ _)
 have HI6 := aM (show IsS89 w w6 _ _ _ _ by rw [hw]; exact IsS89.far HI5.out (IsS89.ne_blk HI5.out hz_ (by decide)) _)
 have HA6 := aM (show Below w.heap.size w w6 by rw [hw]; exact HA5.out.setCell (p := ⟨z7, 0, none⟩) (show w.heap.size ≤ z7 from by have := HZZ1.out; have := HS6.out; have := HS7.out; have := HNE.out; have := HS0.out; have := HZ0.out; have := HZ1.out; have := HZ2.out; omega) _)
 have HZ5 := aM (show w5.heap.size ≤ w6.heap.size by rw [hw]; simp [World.setCell])
 clear hz0_ hzf_ hz_ hw HI5 HA5 Rt_5 Rs0_5 Rs1_5 Xr0_5 Xr1_5 Xt_5 Xz6_5 Xz7_5
 refine hK.out _ _ (Bx.cell Xt_6.out) (fun hHeld => ?_)
 clear hK K
 refine pure_ (i := 12) (N := some 8) (v := ?_) (a' := ?_) #[true, true, true, true, true, true, true, true, true, true, true, true, true] rfl rfl (by kernel_rfl) (fun _ _ _ h => h) (Or.inl ⟨by rfl, ?_⟩) ?_ ?_
 rotate_left
 ·
  intro w'
  go_simp
  with_reducible rfl
 rotate_left
 ·
  simp only [Act.put, zSA, zSB, zSC, i64_w, i32_w]
  rfl
 refine done_ (by kernel_rfl) ?_
 cases sb with
 | false =>
  go_upto_region 6 with (fail)
  obtain ⟨w7, hw⟩ : ∃ W_, W_ = w6.drew := ⟨_, rfl⟩
  have HD7 := aM hw
  have Rt_7 := aM (show Lr w7 w.heap.size _ _ by rw [hw]; exact Lr.drew Rt_6.out)
  have Rs0_7 := aM (show Lr w7 w.heap.size _ _ by rw [hw]; exact Lr.drew Rs0_6.out)
  have Rs1_7 := aM (show Lr w7 w.heap.size _ _ by rw [hw]; exact Lr.drew Rs1_6.out)
  have Xr0_7 := aM (show Bx w7 _ _ _ by rw [hw]; exact Bx.drew Xr0_6.out)
  have Xr1_7 := aM (show Bx w7 _ _ _ by rw [hw]; exact Bx.drew Xr1_6.out)
  have Xt_7 := aM (show Bx w7 _ _ _ by rw [hw]; exact Bx.drew Xt_6.out)
  have Xz6_7 := aM (show Bx w7 _ _ _ by rw [hw]; exact Bx.drew Xz6_6.out)
  have Xz7_7 := aM (show Bx w7 _ _ _ by rw [hw]; exact Bx.drew Xz7_6.out)
  have HI7 := aM (show IsS89 w w7 _ _ _ _ by rw [hw]; exact IsS89.drew HI6.out)
  have HA7 := aM (show Below w.heap.size w w7 by rw [hw]; exact HA6.out.drew)
  have HZ6 := aM (show w6.heap.size ≤ w7.heap.size by rw [hw]; exact Nat.le_refl _)
  clear HI6 HA6 Rt_6 Rs0_6 Rs1_6 Xr0_6 Xr1_6 Xt_6 Xz6_6 Xz7_6
  clear hw
  refine start_ (n := 5) (S := fun w' => w'.cell? ⟨w1.heap.size, 0, none⟩ = some (.slice A_t L.length c_t)) (ds := []) #[false, false, false, false, false] (by kernel_rfl) rfl rfl ((HD7.out ▸ Bx.cell Xt_7.out)) (fun hHeld => ?_)
  rw [← HD7.out] at hHeld ⊢
  refine pure_ (i := 1) (N := some 31) (v := ?_) (a' := ?_) #[false, true, false, false, false] rfl rfl (by kernel_rfl) (fun _ _ _ h => h) (Or.inl ⟨by rfl, ?_⟩) ?_ ?_
  rotate_left
  ·
   intro w'
   go_simp
   with_reducible rfl
  rotate_left
  ·
   simp only [Act.put, zSA, zSB, zSC, i64_w, i32_w]
   rfl
  refine take_ (i := 0) (N := some 30) (v := ?_) (a' := ?_) #[true, true, false, false, false] rfl rfl (by kernel_rfl) (fun _ _ _ h => h) (Or.inl ⟨by rfl, ?_⟩) hHeld ?_ ?_
  rotate_left
  ·
   intro w' s0
   go_simp
   with_reducible rfl
  rotate_left
  ·
   simp only [Act.put, zSA, zSB, zSC, i64_w, i32_w]
   rfl
  refine one_ (i := 2) (N := some 32) #[true, true, true, false, false] rfl rfl (by kernel_rfl) (by decide) (fun K hK => ?_)
  refine goes_ Try.func64 (by kernel_rfl) rfl #[.pointer (some ⟨w.heap.size + 2, 0, none⟩)] (by rfl) rfl rfl (by simp only [List.map_toArray, List.map_cons, List.map_nil]; rfl) ?_
  with_reducible refine (spec_l1Cur_treap.calls k3 (w.heap.size + 2) l0 a2 s2 M a4 s4 w _ HI7.out HA7.out E4.out).mono ?_
  rintro e w8 ⟨v_n, rfl, ho, hi, hb, hk⟩
  refine ⟨_, rfl, ?_⟩
  obtain ⟨A_n, c_n, e_⟩ := Kd.R_slice ho
  subst e_
  have Rt_8 := aM (Lr.cur Rt_7.out HI7.out hk)
  have Rs0_8 := aM (Lr.cur Rs0_7.out HI7.out hk)
  have Rs1_8 := aM (Lr.cur Rs1_7.out HI7.out hk)
  have Xr0_8 := aM (Bx.cur Xr0_7.out HI7.out hk)
  have Xr1_8 := aM (Bx.cur Xr1_7.out HI7.out hk)
  have Xt_8 := aM (Bx.cur Xt_7.out HI7.out hk)
  have Xz6_8 := aM (Bx.cur Xz6_7.out HI7.out hk)
  have Xz7_8 := aM (Bx.cur Xz7_7.out HI7.out hk)
  have HI8 := aM hi
  have HA8 := aM hb
  have HZ7 := aM hk.1
  have Rn_8 := aM (Lr.of (lo := w.heap.size) ho HA7.out.size)
  clear HI7 HA7 Rt_7 Rs0_7 Rs1_7 Xr0_7 Xr1_7 Xt_7 Xz6_7 Xz7_7
  clear ho hi hb hk
  refine hK.out _ _ (Bx.cell Xt_8.out) (fun hHeld => ?_)
  clear hK K
  refine norm_ (a' := ?_) ?_ ?_
  rotate_left
  ·
   show Act.put _ (some 32) _ = _
   simp only [Act.put, zSA, zSB, zSC, i64_w, i32_w]
   rfl
  refine one_ (i := 3) (N := none) #[true, true, true, true, false] rfl rfl (by kernel_rfl) (by decide) (fun K hK => ?_)
  have hz0_ := Bx.cell Xr0_8.out
  have hzf_ := blk_frozen Xr0_8.out 0
  refine skip_ (w1 := ?_) (by rfl) rfl ?_ ?_
  rotate_left
  ·
   go_simp
   rfl
  obtain ⟨w9, hw⟩ : ∃ W_, W_ = w8.setCell ⟨w.heap.size, 0, none⟩ (.slice A_t L.length c_t) := ⟨_, rfl⟩
  rw [← hw]
  have hz_ := Xr0_8.out
  have Rt_9 := aM (show Lr w9 w.heap.size _ _ by rw [hw]; exact Lr.set Rt_8.out hz_ _)
  have Rs0_9 := aM (show Lr w9 w.heap.size _ _ by rw [hw]; exact Lr.set Rs0_8.out hz_ _)
  have Rs1_9 := aM (show Lr w9 w.heap.size _ _ by rw [hw]; exact Lr.set Rs1_8.out hz_ _)
  have Rn_9 := aM (show Lr w9 w.heap.size _ _ by rw [hw]; exact Lr.set Rn_8.out hz_ _)
  have Xr0_9 := aM (show Bx w9 _ _ _ by rw [hw]; exact Bx.put hz_ _)
  have Xr1_9 := aM (show Bx w9 _ _ _ by rw [hw]; exact Bx.set Xr1_8.out (by have := HZZ1.out; have := HS6.out; have := HS7.out; have := HNE.out; have := HS0.out; have := HZ0.out; have := HZ1.out; have := HZ2.out; omega) _)
  have Xt_9 := aM (show Bx w9 _ _ _ by rw [hw]; exact Bx.set Xt_8.out (by have := HZZ1.out; have := HS6.out; have := HS7.out; have := HNE.out; have := HS0.out; have := HZ0.out; have := HZ1.out; have := HZ2.out; omega) _)
  have Xz6_9 := aM (show Bx w9 _ _ _ by rw [hw]; exact Bx.set Xz6_8.out (by have := HZZ1.out; have := HS6.out; have := HS7.out; have := HNE.out; have := HS0.out; have := HZ0.out; have := HZ1.out; have := HZ2.out; omega) _)
  have Xz7_9 := aM (show Bx w9 _ _ _ by rw [hw]; exact Bx.set Xz7_8.out (by have := HZZ1.out; have := HS6.out; have := HS7.out; have := HNE.out; have := HS0.out; have := HZ0.out; have := HZ1.out; have := HZ2.out; omega) _)
  have HI9 := aM (show IsS89 w w9 _ _ _ _ by rw [hw]; exact IsS89.far HI8.out (IsS89.ne_blk HI8.out hz_ (by decide)) _)
  have HA9 := aM (show Below w.heap.size w w9 by rw [hw]; exact HA8.out.setCell (p := ⟨w.heap.size, 0, none⟩) (Nat.le_refl _) _)
  have HZ8 := aM (show w8.heap.size ≤ w9.heap.size by rw [hw]; simp [World.setCell])
  clear hz0_ hzf_ hz_ hw HI8 HA8 Rt_8 Rs0_8 Rs1_8 Rn_8 Xr0_8 Xr1_8 Xt_8 Xz6_8 Xz7_8
  refine hK.out _ _ (Bx.cell Xt_9.out) (fun hHeld => ?_)
  clear hK K
  refine one_ (i := 4) (N := none) #[true, true, true, true, true] rfl rfl (by kernel_rfl) (by decide) (fun K hK => ?_)
  have hz0_ := Bx.cell Xr1_9.out
  have hzf_ := blk_frozen Xr1_9.out 0
  refine skip_ (w1 := ?_) (by rfl) rfl ?_ ?_
  rotate_left
  ·
   go_simp
   rfl
  obtain ⟨w10, hw⟩ : ∃ W_, W_ = w9.setCell ⟨w.heap.size + 1, 0, none⟩ (.slice A_n M.length c_n) := ⟨_, rfl⟩
  rw [← hw]
  have hz_ := Xr1_9.out
  have Rt_10 := aM (show Lr w10 w.heap.size _ _ by rw [hw]; exact Lr.set Rt_9.out hz_ _)
  have Rs0_10 := aM (show Lr w10 w.heap.size _ _ by rw [hw]; exact Lr.set Rs0_9.out hz_ _)
  have Rs1_10 := aM (show Lr w10 w.heap.size _ _ by rw [hw]; exact Lr.set Rs1_9.out hz_ _)
  have Rn_10 := aM (show Lr w10 w.heap.size _ _ by rw [hw]; exact Lr.set Rn_9.out hz_ _)
  have Xr0_10 := aM (show Bx w10 _ _ _ by rw [hw]; exact Bx.set Xr0_9.out (by have := HZZ1.out; have := HS6.out; have := HS7.out; have := HNE.out; have := HS0.out; have := HZ0.out; have := HZ1.out; have := HZ2.out; omega) _)
  have Xr1_10 := aM (show Bx w10 _ _ _ by rw [hw]; exact Bx.put hz_ _)
  have Xt_10 := aM (show Bx w10 _ _ _ by rw [hw]; exact Bx.set Xt_9.out (by have := HZZ1.out; have := HS6.out; have := HS7.out; have := HNE.out; have := HS0.out; have := HZ0.out; have := HZ1.out; have := HZ2.out; omega) _)
  have Xz6_10 := aM (show Bx w10 _ _ _ by rw [hw]; exact Bx.set Xz6_9.out (by have := HZZ1.out; have := HS6.out; have := HS7.out; have := HNE.out; have := HS0.out; have := HZ0.out; have := HZ1.out; have := HZ2.out; omega) _)
  have Xz7_10 := aM (show Bx w10 _ _ _ by rw [hw]; exact Bx.set Xz7_9.out (by have := HZZ1.out; have := HS6.out; have := HS7.out; have := HNE.out; have := HS0.out; have := HZ0.out; have := HZ1.out; have := HZ2.out; omega) _)
  have HI10 := aM (show IsS89 w w10 _ _ _ _ by rw [hw]; exact IsS89.far HI9.out (IsS89.ne_blk HI9.out hz_ (by decide)) _)
  have HA10 := aM (show Below w.heap.size w w10 by rw [hw]; exact HA9.out.setCell (p := ⟨w.heap.size + 1, 0, none⟩) (Nat.le_succ _) _)
  have HZ9 := aM (show w9.heap.size ≤ w10.heap.size by rw [hw]; simp [World.setCell])
  clear hz0_ hzf_ hz_ hw HI9 HA9 Rt_9 Rs0_9 Rs1_9 Rn_9 Xr0_9 Xr1_9 Xt_9 Xz6_9 Xz7_9
  refine hK.out _ _ (Bx.cell Xt_10.out) (fun hHeld => ?_)
  clear hK K
  refine done_ (by kernel_rfl) ?_
  go_wp2
  refine bodyPost_ret (results_cc rfl _ _ w.heap.size (w.heap.size + 1) 29 29 #[.slice A_t L.length c_t] #[.slice A_n M.length c_n] (0, 0) (0, 0) _ _ rfl Xr0_10.out Try.underlying29 rfl (by kernel_rfl) rfl Xr1_10.out Try.underlying29 rfl (by kernel_rfl)) rfl ?_
  exact ⟨_, _, rfl, Kd.R_mono Rt_10.out (fun _ _ => trivial), Kd.R_mono Rn_10.out (fun _ _ => trivial), HA10.out⟩
 | true =>
  cases b with
  | true =>
   go_upto_region 6 with (first | (go_at_call 66; go_loud ((with_reducible refine (spec_l1Cur_one.calls (w.heap.size + 2) l0 a2 s2 6 true a3 s3 w _ HI6.out HA6.out E3.out).mono ?_); rintro e w7 ⟨rfl, hi, hb, hk⟩; have Rt_7 := aM (Lr.cur Rt_6.out HI6.out hk); have Rs0_7 := aM (Lr.cur Rs0_6.out HI6.out hk); have Rs1_7 := aM (Lr.cur Rs1_6.out HI6.out hk); have Xr0_7 := aM (Bx.cur Xr0_6.out HI6.out hk); have Xr1_7 := aM (Bx.cur Xr1_6.out HI6.out hk); have Xt_7 := aM (Bx.cur Xt_6.out HI6.out hk); have Xz6_7 := aM (Bx.cur Xz6_6.out HI6.out hk); have Xz7_7 := aM (Bx.cur Xz7_6.out HI6.out hk); have HI7 := aM hi; have HA7 := aM hb; have HZ6 := aM hk.1; clear HI6 HA6 Rt_6 Rs0_6 Rs1_6 Xr0_6 Xr1_6 Xt_6 Xz6_6 Xz7_6; clear hi hb hk)))
   obtain ⟨w8, hw⟩ : ∃ W_, W_ = w7.drew := ⟨_, rfl⟩
   have HD8 := aM hw
   have Rt_8 := aM (show Lr w8 w.heap.size _ _ by rw [hw]; exact Lr.drew Rt_7.out)
   have Rs0_8 := aM (show Lr w8 w.heap.size _ _ by rw [hw]; exact Lr.drew Rs0_7.out)
   have Rs1_8 := aM (show Lr w8 w.heap.size _ _ by rw [hw]; exact Lr.drew Rs1_7.out)
   have Xr0_8 := aM (show Bx w8 _ _ _ by rw [hw]; exact Bx.drew Xr0_7.out)
   have Xr1_8 := aM (show Bx w8 _ _ _ by rw [hw]; exact Bx.drew Xr1_7.out)
   have Xt_8 := aM (show Bx w8 _ _ _ by rw [hw]; exact Bx.drew Xt_7.out)
   have Xz6_8 := aM (show Bx w8 _ _ _ by rw [hw]; exact Bx.drew Xz6_7.out)
   have Xz7_8 := aM (show Bx w8 _ _ _ by rw [hw]; exact Bx.drew Xz7_7.out)
   have HI8 := aM (show IsS89 w w8 _ _ _ _ by rw [hw]; exact IsS89.drew HI7.out)
   have HA8 := aM (show Below w.heap.size w w8 by rw [hw]; exact HA7.out.drew)
   have HZ7 := aM (show w7.heap.size ≤ w8.heap.size by rw [hw]; exact Nat.le_refl _)
   clear HI7 HA7 Rt_7 Rs0_7 Rs1_7 Xr0_7 Xr1_7 Xt_7 Xz6_7 Xz7_7
   clear hw
   refine start_ (n := 5) (S := fun w' => w'.cell? ⟨w1.heap.size, 0, none⟩ = some (.slice A_t L.length c_t)) (ds := []) #[false, false, false, false, false] (by kernel_rfl) rfl rfl ((HD8.out ▸ Bx.cell Xt_8.out)) (fun hHeld => ?_)
   rw [← HD8.out] at hHeld ⊢
   refine pure_ (i := 1) (N := some 31) (v := ?_) (a' := ?_) #[false, true, false, false, false] rfl rfl (by kernel_rfl) (fun _ _ _ h => h) (Or.inl ⟨by rfl, ?_⟩) ?_ ?_
   rotate_left
   ·
    intro w'
    go_simp
    with_reducible rfl
   rotate_left
   ·
    simp only [Act.put, zSA, zSB, zSC, i64_w, i32_w]
    rfl
   refine take_ (i := 0) (N := some 30) (v := ?_) (a' := ?_) #[true, true, false, false, false] rfl rfl (by kernel_rfl) (fun _ _ _ h => h) (Or.inl ⟨by rfl, ?_⟩) hHeld ?_ ?_
   rotate_left
   ·
    intro w' s0
    go_simp
    with_reducible rfl
   rotate_left
   ·
    simp only [Act.put, zSA, zSB, zSC, i64_w, i32_w]
    rfl
   refine one_ (i := 2) (N := some 32) #[true, true, true, false, false] rfl rfl (by kernel_rfl) (by decide) (fun K hK => ?_)
   refine goes_ Try.func64 (by kernel_rfl) rfl #[.pointer (some ⟨w.heap.size + 2, 0, none⟩)] (by rfl) rfl rfl (by simp only [List.map_toArray, List.map_cons, List.map_nil]; rfl) ?_
   with_reducible refine (spec_l1Cur_treap.calls k4 (w.heap.size + 2) l0 a3 s3 M2 a5 s5 w _ HI8.out HA8.out E5.out).mono ?_
   rintro e w9 ⟨v_n, rfl, ho, hi, hb, hk⟩
   refine ⟨_, rfl, ?_⟩
   obtain ⟨A_n, c_n, e_⟩ := Kd.R_slice ho
   subst e_
   have Rt_9 := aM (Lr.cur Rt_8.out HI8.out hk)
   have Rs0_9 := aM (Lr.cur Rs0_8.out HI8.out hk)
   have Rs1_9 := aM (Lr.cur Rs1_8.out HI8.out hk)
   have Xr0_9 := aM (Bx.cur Xr0_8.out HI8.out hk)
   have Xr1_9 := aM (Bx.cur Xr1_8.out HI8.out hk)
   have Xt_9 := aM (Bx.cur Xt_8.out HI8.out hk)
   have Xz6_9 := aM (Bx.cur Xz6_8.out HI8.out hk)
   have Xz7_9 := aM (Bx.cur Xz7_8.out HI8.out hk)
   have HI9 := aM hi
   have HA9 := aM hb
   have HZ8 := aM hk.1
   have Rn_9 := aM (Lr.of (lo := w.heap.size) ho HA8.out.size)
   clear HI8 HA8 Rt_8 Rs0_8 Rs1_8 Xr0_8 Xr1_8 Xt_8 Xz6_8 Xz7_8
   clear ho hi hb hk
   refine hK.out _ _ (Bx.cell Xt_9.out) (fun hHeld => ?_)
   clear hK K
   refine norm_ (a' := ?_) ?_ ?_
   rotate_left
   ·
    show Act.put _ (some 32) _ = _
    simp only [Act.put, zSA, zSB, zSC, i64_w, i32_w]
    rfl
   refine one_ (i := 3) (N := none) #[true, true, true, true, false] rfl rfl (by kernel_rfl) (by decide) (fun K hK => ?_)
   have hz0_ := Bx.cell Xr0_9.out
   have hzf_ := blk_frozen Xr0_9.out 0
   refine skip_ (w1 := ?_) (by rfl) rfl ?_ ?_
   rotate_left
   ·
    go_simp
    rfl
   obtain ⟨w10, hw⟩ : ∃ W_, W_ = w9.setCell ⟨w.heap.size, 0, none⟩ (.slice A_t L.length c_t) := ⟨_, rfl⟩
   rw [← hw]
   have hz_ := Xr0_9.out
   have Rt_10 := aM (show Lr w10 w.heap.size _ _ by rw [hw]; exact Lr.set Rt_9.out hz_ _)
   have Rs0_10 := aM (show Lr w10 w.heap.size _ _ by rw [hw]; exact Lr.set Rs0_9.out hz_ _)
   have Rs1_10 := aM (show Lr w10 w.heap.size _ _ by rw [hw]; exact Lr.set Rs1_9.out hz_ _)
   have Rn_10 := aM (show Lr w10 w.heap.size _ _ by rw [hw]; exact Lr.set Rn_9.out hz_ _)
   have Xr0_10 := aM (show Bx w10 _ _ _ by rw [hw]; exact Bx.put hz_ _)
   have Xr1_10 := aM (show Bx w10 _ _ _ by rw [hw]; exact Bx.set Xr1_9.out (by have := HZZ1.out; have := HS6.out; have := HS7.out; have := HNE.out; have := HS0.out; have := HZ0.out; have := HZ1.out; have := HZ2.out; omega) _)
   have Xt_10 := aM (show Bx w10 _ _ _ by rw [hw]; exact Bx.set Xt_9.out (by have := HZZ1.out; have := HS6.out; have := HS7.out; have := HNE.out; have := HS0.out; have := HZ0.out; have := HZ1.out; have := HZ2.out; omega) _)
   have Xz6_10 := aM (show Bx w10 _ _ _ by rw [hw]; exact Bx.set Xz6_9.out (by have := HZZ1.out; have := HS6.out; have := HS7.out; have := HNE.out; have := HS0.out; have := HZ0.out; have := HZ1.out; have := HZ2.out; omega) _)
   have Xz7_10 := aM (show Bx w10 _ _ _ by rw [hw]; exact Bx.set Xz7_9.out (by have := HZZ1.out; have := HS6.out; have := HS7.out; have := HNE.out; have := HS0.out; have := HZ0.out; have := HZ1.out; have := HZ2.out; omega) _)
   have HI10 := aM (show IsS89 w w10 _ _ _ _ by rw [hw]; exact IsS89.far HI9.out (IsS89.ne_blk HI9.out hz_ (by decide)) _)
   have HA10 := aM (show Below w.heap.size w w10 by rw [hw]; exact HA9.out.setCell (p := ⟨w.heap.size, 0, none⟩) (Nat.le_refl _) _)
   have HZ9 := aM (show w9.heap.size ≤ w10.heap.size by rw [hw]; simp [World.setCell])
   clear hz0_ hzf_ hz_ hw HI9 HA9 Rt_9 Rs0_9 Rs1_9 Rn_9 Xr0_9 Xr1_9 Xt_9 Xz6_9 Xz7_9
   refine hK.out _ _ (Bx.cell Xt_10.out) (fun hHeld => ?_)
   clear hK K
   refine one_ (i := 4) (N := none) #[true, true, true, true, true] rfl rfl (by kernel_rfl) (by decide) (fun K hK => ?_)
   have hz0_ := Bx.cell Xr1_10.out
   have hzf_ := blk_frozen Xr1_10.out 0
   refine skip_ (w1 := ?_) (by rfl) rfl ?_ ?_
   rotate_left
   ·
    go_simp
    rfl
   obtain ⟨w11, hw⟩ : ∃ W_, W_ = w10.setCell ⟨w.heap.size + 1, 0, none⟩ (.slice A_n M2.length c_n) := ⟨_, rfl⟩
   rw [← hw]
   have hz_ := Xr1_10.out
   have Rt_11 := aM (show Lr w11 w.heap.size _ _ by rw [hw]; exact Lr.set Rt_10.out hz_ _)
   have Rs0_11 := aM (show Lr w11 w.heap.size _ _ by rw [hw]; exact Lr.set Rs0_10.out hz_ _)
   have Rs1_11 := aM (show Lr w11 w.heap.size _ _ by rw [hw]; exact Lr.set Rs1_10.out hz_ _)
   have Rn_11 := aM (show Lr w11 w.heap.size _ _ by rw [hw]; exact Lr.set Rn_10.out hz_ _)
   have Xr0_11 := aM (show Bx w11 _ _ _ by rw [hw]; exact Bx.set Xr0_10.out (by have := HZZ1.out; have := HS6.out; have := HS7.out; have := HNE.out; have := HS0.out; have := HZ0.out; have := HZ1.out; have := HZ2.out; omega) _)
   have Xr1_11 := aM (show Bx w11 _ _ _ by rw [hw]; exact Bx.put hz_ _)
   have Xt_11 := aM (show Bx w11 _ _ _ by rw [hw]; exact Bx.set Xt_10.out (by have := HZZ1.out; have := HS6.out; have := HS7.out; have := HNE.out; have := HS0.out; have := HZ0.out; have := HZ1.out; have := HZ2.out; omega) _)
   have Xz6_11 := aM (show Bx w11 _ _ _ by rw [hw]; exact Bx.set Xz6_10.out (by have := HZZ1.out; have := HS6.out; have := HS7.out; have := HNE.out; have := HS0.out; have := HZ0.out; have := HZ1.out; have := HZ2.out; omega) _)
   have Xz7_11 := aM (show Bx w11 _ _ _ by rw [hw]; exact Bx.set Xz7_10.out (by have := HZZ1.out; have := HS6.out; have := HS7.out; have := HNE.out; have := HS0.out; have := HZ0.out; have := HZ1.out; have := HZ2.out; omega) _)
   have HI11 := aM (show IsS89 w w11 _ _ _ _ by rw [hw]; exact IsS89.far HI10.out (IsS89.ne_blk HI10.out hz_ (by decide)) _)
   have HA11 := aM (show Below w.heap.size w w11 by rw [hw]; exact HA10.out.setCell (p := ⟨w.heap.size + 1, 0, none⟩) (Nat.le_succ _) _)
   have HZ10 := aM (show w10.heap.size ≤ w11.heap.size by rw [hw]; simp [World.setCell])
   clear hz0_ hzf_ hz_ hw HI10 HA10 Rt_10 Rs0_10 Rs1_10 Rn_10 Xr0_10 Xr1_10 Xt_10 Xz6_10 Xz7_10
   refine hK.out _ _ (Bx.cell Xt_11.out) (fun hHeld => ?_)
   clear hK K
   refine done_ (by kernel_rfl) ?_
   go_wp2
   refine bodyPost_ret (results_cc rfl _ _ w.heap.size (w.heap.size + 1) 29 29 #[.slice A_t L.length c_t] #[.slice A_n M2.length c_n] (0, 0) (0, 0) _ _ rfl Xr0_11.out Try.underlying29 rfl (by kernel_rfl) rfl Xr1_11.out Try.underlying29 rfl (by kernel_rfl)) rfl ?_
   exact ⟨_, _, rfl, Kd.R_mono Rt_11.out (fun _ _ => trivial), Kd.R_mono Rn_11.out (fun _ _ => trivial), HA11.out⟩
  | false =>
   go_upto_region 5 with (first | (go_at_call 66; go_loud ((with_reducible refine (spec_l1Cur_one.calls (w.heap.size + 2) l0 a2 s2 6 false a3 s3 w _ HI6.out HA6.out E3.out).mono ?_); rintro e w7 ⟨rfl, hi, hb, hk⟩; have Rt_7 := aM (Lr.cur Rt_6.out HI6.out hk); have Rs0_7 := aM (Lr.cur Rs0_6.out HI6.out hk); have Rs1_7 := aM (Lr.cur Rs1_6.out HI6.out hk); have Xr0_7 := aM (Bx.cur Xr0_6.out HI6.out hk); have Xr1_7 := aM (Bx.cur Xr1_6.out HI6.out hk); have Xt_7 := aM (Bx.cur Xt_6.out HI6.out hk); have Xz6_7 := aM (Bx.cur Xz6_6.out HI6.out hk); have Xz7_7 := aM (Bx.cur Xz7_6.out HI6.out hk); have HI7 := aM hi; have HA7 := aM hb; have HZ6 := aM hk.1; clear HI6 HA6 Rt_6 Rs0_6 Rs1_6 Xr0_6 Xr1_6 Xt_6 Xz6_6 Xz7_6; clear hi hb hk)))
   obtain ⟨w8, hw⟩ : ∃ W_, W_ = w7.drew := ⟨_, rfl⟩
   have HD8 := aM hw
   have Rt_8 := aM (show Lr w8 w.heap.size _ _ by rw [hw]; exact Lr.drew Rt_7.out)
   have Rs0_8 := aM (show Lr w8 w.heap.size _ _ by rw [hw]; exact Lr.drew Rs0_7.out)
   have Rs1_8 := aM (show Lr w8 w.heap.size _ _ by rw [hw]; exact Lr.drew Rs1_7.out)
   have Xr0_8 := aM (show Bx w8 _ _ _ by rw [hw]; exact Bx.drew Xr0_7.out)
   have Xr1_8 := aM (show Bx w8 _ _ _ by rw [hw]; exact Bx.drew Xr1_7.out)
   have Xt_8 := aM (show Bx w8 _ _ _ by rw [hw]; exact Bx.drew Xt_7.out)
   have Xz6_8 := aM (show Bx w8 _ _ _ by rw [hw]; exact Bx.drew Xz6_7.out)
   have Xz7_8 := aM (show Bx w8 _ _ _ by rw [hw]; exact Bx.drew Xz7_7.out)
   have HI8 := aM (show IsS89 w w8 _ _ _ _ by rw [hw]; exact IsS89.drew HI7.out)
   have HA8 := aM (show Below w.heap.size w w8 by rw [hw]; exact HA7.out.drew)
   have HZ7 := aM (show w7.heap.size ≤ w8.heap.size by rw [hw]; exact Nat.le_refl _)
   clear HI7 HA7 Rt_7 Rs0_7 Rs1_7 Xr0_7 Xr1_7 Xt_7 Xz6_7 Xz7_7
   clear hw
   refine start_ (n := 4) (S := fun w' => w'.cell? ⟨z6, 0, none⟩ = some (.slice A_s0 x0.length c_s0) ∧ w'.cell? ⟨z7, 0, none⟩ = some (.slice A_s1 x1.length c_s1)) (ds := []) #[false, false, false, false] (by kernel_rfl) rfl rfl ⟨(HD8.out ▸ Bx.cell Xz6_8.out), (HD8.out ▸ Bx.cell Xz7_8.out)⟩ (fun hHeld => ?_)
   rw [← HD8.out] at hHeld ⊢
   refine take_ (i := 0) (N := some 28) (v := ?_) (a' := ?_) #[true, false, false, false] rfl rfl (by kernel_rfl) (fun _ _ _ h => h) (Or.inl ⟨by rfl, ?_⟩) hHeld ?_ ?_
   rotate_left
   ·
    rintro w' ⟨s0, s1⟩
    go_simp
    with_reducible rfl
   rotate_left
   ·
    simp only [Act.put, zSA, zSB, zSC, i64_w, i32_w]
    rfl
   refine take_ (i := 1) (N := some 29) (v := ?_) (a' := ?_) #[true, true, false, false] rfl rfl (by kernel_rfl) (fun _ _ _ h => h) (Or.inl ⟨by rfl, ?_⟩) hHeld ?_ ?_
   rotate_left
   ·
    rintro w' ⟨s0, s1⟩
    go_simp
    with_reducible rfl
   rotate_left
   ·
    simp only [Act.put, zSA, zSB, zSC, i64_w, i32_w]
    rfl
   refine one_ (i := 2) (N := none) #[true, true, true, false] rfl rfl (by kernel_rfl) (by decide) (fun K hK => ?_)
   have hz0_ := Bx.cell Xr0_8.out
   have hzf_ := blk_frozen Xr0_8.out 0
   refine skip_ (w1 := ?_) (by rfl) rfl ?_ ?_
   rotate_left
   ·
    go_simp
    rfl
   obtain ⟨w9, hw⟩ : ∃ W_, W_ = w8.setCell ⟨w.heap.size, 0, none⟩ (.slice A_s0 x0.length c_s0) := ⟨_, rfl⟩
   rw [← hw]
   have hz_ := Xr0_8.out
   have Rt_9 := aM (show Lr w9 w.heap.size _ _ by rw [hw]; exact Lr.set Rt_8.out hz_ _)
   have Rs0_9 := aM (show Lr w9 w.heap.size _ _ by rw [hw]; exact Lr.set Rs0_8.out hz_ _)
   have Rs1_9 := aM (show Lr w9 w.heap.size _ _ by rw [hw]; exact Lr.set Rs1_8.out hz_ _)
   have Xr0_9 := aM (show Bx w9 _ _ _ by rw [hw]; exact Bx.put hz_ _)
   have Xr1_9 := aM (show Bx w9 _ _ _ by rw [hw]; exact Bx.set Xr1_8.out (by have := HZZ1.out; have := HS6.out; have := HS7.out; have := HNE.out; have := HS0.out; have := HZ0.out; have := HZ1.out; have := HZ2.out; omega) _)
   have Xt_9 := aM (show Bx w9 _ _ _ by rw [hw]; exact Bx.set Xt_8.out (by have := HZZ1.out; have := HS6.out; have := HS7.out; have := HNE.out; have := HS0.out; have := HZ0.out; have := HZ1.out; have := HZ2.out; omega) _)
   have Xz6_9 := aM (show Bx w9 _ _ _ by rw [hw]; exact Bx.set Xz6_8.out (by have := HZZ1.out; have := HS6.out; have := HS7.out; have := HNE.out; have := HS0.out; have := HZ0.out; have := HZ1.out; have := HZ2.out; omega) _)
   have Xz7_9 := aM (show Bx w9 _ _ _ by rw [hw]; exact Bx.set Xz7_8.out (by have := HZZ1.out; have := HS6.out; have := HS7.out; have := HNE.out; have := HS0.out; have := HZ0.out; have := HZ1.out; have := HZ2.out; omega) _)
   have HI9 := aM (show IsS89 w w9 _ _ _ _ by rw [hw]; exact IsS89.far HI8.out (IsS89.ne_blk HI8.out hz_ (by decide)) _)
   have HA9 := aM (show Below w.heap.size w w9 by rw [hw]; exact HA8.out.setCell (p := ⟨w.heap.size, 0, none⟩) (Nat.le_refl _) _)
   have HZ8 := aM (show w8.heap.size ≤ w9.heap.size by rw [hw]; simp [World.setCell])
   clear hz0_ hzf_ hz_ hw HI8 HA8 Rt_8 Rs0_8 Rs1_8 Xr0_8 Xr1_8 Xt_8 Xz6_8 Xz7_8
   refine hK.out _ _ ⟨Bx.cell Xz6_9.out, Bx.cell Xz7_9.out⟩ (fun hHeld => ?_)
   clear hK K
   refine one_ (i := 3) (N := none) #[true, true, true, true] rfl rfl (by kernel_rfl) (by decide) (fun K hK => ?_)
   have hz0_ := Bx.cell Xr1_9.out
   have hzf_ := blk_frozen Xr1_9.out 0
   refine skip_ (w1 := ?_) (by rfl) rfl ?_ ?_
   rotate_left
   ·
    go_simp
    rfl
   obtain ⟨w10, hw⟩ : ∃ W_, W_ = w9.setCell ⟨w.heap.size + 1, 0, none⟩ (.slice A_s1 x1.length c_s1) := ⟨_, rfl⟩
   rw [← hw]
   have hz_ := Xr1_9.out
   have Rt_10 := aM (show Lr w10 w.heap.size _ _ by rw [hw]; exact Lr.set Rt_9.out hz_ _)
   have Rs0_10 := aM (show Lr w10 w.heap.size _ _ by rw [hw]; exact Lr.set Rs0_9.out hz_ _)
   have Rs1_10 := aM (show Lr w10 w.heap.size _ _ by rw [hw]; exact Lr.set Rs1_9.out hz_ _)
   have Xr0_10 := aM (show Bx w10 _ _ _ by rw [hw]; exact Bx.set Xr0_9.out (by have := HZZ1.out; have := HS6.out; have := HS7.out; have := HNE.out; have := HS0.out; have := HZ0.out; have := HZ1.out; have := HZ2.out; omega) _)
   have Xr1_10 := aM (show Bx w10 _ _ _ by rw [hw]; exact Bx.put hz_ _)
   have Xt_10 := aM (show Bx w10 _ _ _ by rw [hw]; exact Bx.set Xt_9.out (by have := HZZ1.out; have := HS6.out; have := HS7.out; have := HNE.out; have := HS0.out; have := HZ0.out; have := HZ1.out; have := HZ2.out; omega) _)
   have Xz6_10 := aM (show Bx w10 _ _ _ by rw [hw]; exact Bx.set Xz6_9.out (by have := HZZ1.out; have := HS6.out; have := HS7.out; have := HNE.out; have := HS0.out; have := HZ0.out; have := HZ1.out; have := HZ2.out; omega) _)
   have Xz7_10 := aM (show Bx w10 _ _ _ by rw [hw]; exact Bx.set Xz7_9.out (by have := HZZ1.out; have := HS6.out; have := HS7.out; have := HNE.out; have := HS0.out; have := HZ0.out; have := HZ1.out; have := HZ2.out; omega) _)
   have HI10 := aM (show IsS89 w w10 _ _ _ _ by rw [hw]; exact IsS89.far HI9.out (IsS89.ne_blk HI9.out hz_ (by decide)) _)
   have HA10 := aM (show Below w.heap.size w w10 by rw [hw]; exact HA9.out.setCell (p := ⟨w.heap.size + 1, 0, none⟩) (Nat.le_succ _) _)
   have HZ9 := aM (show w9.heap.size ≤ w10.heap.size by rw [hw]; simp [World.setCell])
   clear hz0_ hzf_ hz_ hw HI9 HA9 Rt_9 Rs0_9 Rs1_9 Xr0_9 Xr1_9 Xt_9 Xz6_9 Xz7_9
   refine hK.out _ _ ⟨Bx.cell Xz6_10.out, Bx.cell Xz7_10.out⟩ (fun hHeld => ?_)
   clear hK K
   refine done_ (by kernel_rfl) ?_
   go_wp2
   refine bodyPost_ret (results_cc rfl _ _ w.heap.size (w.heap.size + 1) 29 29 #[.slice A_s0 x0.length c_s0] #[.slice A_s1 x1.length c_s1] (0, 0) (0, 0) _ _ rfl Xr0_10.out Try.underlying29 rfl (by kernel_rfl) rfl Xr1_10.out Try.underlying29 rfl (by kernel_rfl)) rfl ?_
   exact ⟨_, _, rfl, Kd.R_mono Rs0_10.out (fun _ _ => trivial), Kd.R_mono Rs1_10.out (fun _ _ => trivial), HA10.out⟩
/-- Two drawn treaps. -/
abbrev Twos (f : Nat) (l0 : List Int) (p q : List Lb) : Prop := ∀ (A0 : Option Addr) (c0 : Nat) (w : World), Kd.C (Kd.int .u8) w A0 l0.length l0 → l0.length ≤ c0 →
 Calls Try.prog f #[.slice A0 l0.length c0] w fun e w' => ∃ v0 v1 : Value, e = .returned (.tuple #[.agg #[v0], .agg #[v1]]) ∧ Kd.R k71 71 w' w.heap.size (fun _ => True) v0 p ∧ Kd.R k71 71 w' w.heap.size (fun _ => True) v1 q ∧ Below w.heap.size w w'
theorem drawJoin {l0 : List Int} (h : Bytes l0) : ∃ p q, p.length ≤ 60 ∧ q.length ≤ 60 ∧ Twos 37 l0 p q := by
 obtain ⟨L, a1, s1, hev, hL, ha, hb⟩ := treap_ev h 0 0 (by omega) (by omega)
 obtain ⟨k1, e1⟩ := hev.ex
 obtain ⟨key, a2, s2, e2, hz, ha2, hb2⟩ := key_ev h a1 s1 ha (by omega)
 obtain ⟨k2, es⟩ := (split_both L key).ex
 have hsm := split_small L key
 obtain ⟨x0, x1, sb, hx⟩ : ∃ x0 x1 sb, ansS L key = (x0, x1, sb) := ⟨_, _, _, rfl⟩
 rw [hx] at es hsm
 obtain ⟨b, a3, s3, e3, ha3, hb3⟩ := one_ev h a2 s2 6 (by omega) (by omega)
 obtain ⟨M, a4, s4, hev4, hM, _⟩ := treap_ev h a2 s2 (by omega) (by omega)
 obtain ⟨k3, e4⟩ := hev4.ex
 obtain ⟨M2, a5, s5, hev5, hM2, _⟩ := treap_ev h a3 s3 (by omega) (by omega)
 obtain ⟨k4, e5⟩ := hev5.ex
 refine ⟨cond sb (cond b L x0) L, cond sb (cond b M2 x1) M, ?_, ?_, fun A0 c0 w hr0 hc0 => drawJoin_all l0 L x0 x1 M M2 key sb b a1 s1 a2 s2 a3 s3 a4 s4 a5 s5 k1 k2 k3 k4 A0 c0 w ⟨e1⟩ ⟨e2⟩ ⟨es⟩ ⟨e3⟩ ⟨e4⟩ ⟨e5⟩ hr0 hc0⟩
 ·
  cases sb <;> cases b <;> first | exact hL | exact hsm.1
 ·
  cases sb <;> cases b <;> first | exact hM | exact hM2 | exact hsm.2
end Go.Proofs.Ytjknkeipginpcaa.TrG
end
